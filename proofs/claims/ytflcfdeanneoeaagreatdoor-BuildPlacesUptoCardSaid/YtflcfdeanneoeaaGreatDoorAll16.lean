import Derived.Test.YtflcfdeanneoeaaGreatDoorAll15
import Derived.Test.YtflcfdeanneoeaaGreatDoorAll5
import Derived.Test.YtflcfdeanneoeaaGreatDoorAll12
namespace Go.Proofs.YtflcfdeanneoeaaGreatDoor
open Go Go.EW
set_option linter.unusedSimpArgs false
set_option linter.unusedVariables false

@[simp] def l_longState_1 (_ : Unit) : List EOp := [⟨0, (some 1), none, (.q (.box 32 (.t 0))), []⟩, ⟨1, (some 2), none, (.q (.mov (.k (.bool false)))), []⟩]
@[simp] def b_longState_2 (_ : Unit) : EB := reg0 (hid l_longState_1) 2
@[simp] def l_longState_4 (_ : Unit) : List EOp := [⟨6, (some 11), none, (.q (.bin .add (.t 7) (.t 10))), []⟩, ⟨7, (some 3), none, (.q (.mov (.t 11))), []⟩]
@[simp] def l_longState_3 (_ : Unit) : List EOp := ⟨0, (some 5), none, (.q (.fad 3 (.t 1))), []⟩ :: ⟨1, (some 6), none, (.q (.ldc (.t 5))), []⟩ :: ⟨2, (some 7), none, (.q (.len (.t 6))), []⟩ :: ⟨3, (some 8), none, (.q (.fad 4 (.t 1))), []⟩ :: ⟨4, (some 9), none, (.q (.ldc (.t 8))), []⟩ :: ⟨5, (some 10), none, (.q (.len (.t 9))), []⟩ :: hid l_longState_4
@[simp] def b_longState_5 (_ : Unit) : EB := reg0 (hid l_longState_3) 8
@[simp] def l_longState_6 (_ : Unit) : List EOp := [⟨0, (some 12), none, (.q (.mov (.t 3))), []⟩, ⟨1, (some 13), none, (.q (.bin .gtr (.t 12) (.k (.int .i64 100)))), []⟩]
@[simp] def b_longState_7 (_ : Unit) : EB := reg0 (hid l_longState_6) 2
@[simp] def l_longState_8 (_ : Unit) : List EOp := [⟨0, (some 2), none, (.q (.mov (.k (.bool true)))), []⟩]
@[simp] def b_longState_9 (_ : Unit) : EB := reg0 (hid l_longState_8) 1
@[simp] def b_longState_10 (_ : Unit) : EB := .seq (hid b_longState_9) .ret
@[simp] def b_longState_11 (_ : Unit) : EB := .cond (.t 13) (hid b_longState_10) .skip
@[simp] def b_longState_12 (_ : Unit) : EB := .seq (hid b_longState_7) (hid b_longState_11)
@[simp] def l_longState_13 (_ : Unit) : List EOp := [⟨0, (some 4), none, (.q (.mov (.k (.int .i64 0)))), []⟩]
@[simp] def b_longState_14 (_ : Unit) : EB := reg0 (hid l_longState_13) 1
@[simp] def l_longState_15 (_ : Unit) : List EOp := [⟨0, (some 14), none, (.q (.mov (.t 4))), []⟩, ⟨1, (some 15), none, (.q (.fad 4 (.t 1))), []⟩, ⟨2, (some 16), none, (.q (.ldc (.t 15))), []⟩, ⟨3, (some 17), none, (.q (.len (.t 16))), []⟩, ⟨4, (some 18), none, (.q (.bin .lss (.t 14) (.t 17))), []⟩]
@[simp] def b_longState_16 (_ : Unit) : EB := reg0 (hid l_longState_15) 5
@[simp] def b_longState_17 (_ : Unit) : EB := .cond (.t 18) .skip (.exit 0)
@[simp] def b_longState_18 (_ : Unit) : EB := .seq (hid b_longState_16) (hid b_longState_17)
@[simp] def l_longState_20 (_ : Unit) : List EOp := [⟨6, (some 27), none, (.q (.ldc (.t 26))), []⟩, ⟨7, (some 28), none, (.q (.len (.t 27))), []⟩, ⟨8, (some 29), none, (.q (.bin .add (.t 21) (.t 28))), []⟩, ⟨9, (some 3), none, (.q (.mov (.t 29))), []⟩]
@[simp] def l_longState_19 (_ : Unit) : List EOp := ⟨0, (some 21), none, (.q (.mov (.t 3))), []⟩ :: ⟨1, (some 22), none, (.q (.fad 4 (.t 1))), []⟩ :: ⟨2, (some 23), none, (.q (.ldc (.t 22))), []⟩ :: ⟨3, (some 24), none, (.q (.mov (.t 4))), []⟩ :: ⟨4, (some 25), none, (.q (.isl 3 (.t 23) (.t 24))), []⟩ :: ⟨5, (some 26), none, (.q (.fad 2 (.t 25))), []⟩ :: hid l_longState_20
@[simp] def b_longState_21 (_ : Unit) : EB := reg0 (hid l_longState_19) 10
@[simp] def b_longState_22 (_ : Unit) : EB := .block 1 (hid b_longState_21)
@[simp] def l_longState_23 (_ : Unit) : List EOp := [⟨0, (some 19), none, (.q (.mov (.t 4))), []⟩, ⟨1, (some 20), none, (.q (.bin .add (.t 19) (.k (.int .i64 1)))), []⟩, ⟨2, (some 4), none, (.q (.mov (.t 20))), []⟩]
@[simp] def b_longState_24 (_ : Unit) : EB := reg0 (hid l_longState_23) 3
@[simp] def b_longState_25 (_ : Unit) : EB := .seq (hid b_longState_22) (hid b_longState_24)
@[simp] def b_longState_26 (_ : Unit) : EB := .seq (hid b_longState_18) (hid b_longState_25)
@[simp] def b_longState_27 (_ : Unit) : EB := .loop (hid b_longState_26)
@[simp] def b_longState_28 (_ : Unit) : EB := .block 0 (hid b_longState_27)
@[simp] def b_longState_29 (_ : Unit) : EB := .seq (hid b_longState_14) (hid b_longState_28)
@[simp] def l_longState_30 (_ : Unit) : List EOp := [⟨0, (some 30), none, (.q (.mov (.t 3))), []⟩, ⟨1, (some 31), none, (.q (.bin .gtr (.t 30) (.k (.int .i64 300)))), []⟩, ⟨2, (some 2), none, (.q (.mov (.t 31))), []⟩]
@[simp] def b_longState_31 (_ : Unit) : EB := reg0 (hid l_longState_30) 3
@[simp] def b_longState_32 (_ : Unit) : EB := .seq (hid b_longState_31) .ret
@[simp] def b_longState_33 (_ : Unit) : EB := .seq (hid b_longState_29) (hid b_longState_32)
@[simp] def b_longState_34 (_ : Unit) : EB := .seq (hid b_longState_12) (hid b_longState_33)
@[simp] def b_longState_35 (_ : Unit) : EB := .seq (hid b_longState_5) (hid b_longState_34)
@[simp] def b_longState_36 (_ : Unit) : EB := .seq (hid b_longState_2) (hid b_longState_35)
def c_longState : EB × List QOp × Nat := ((hid b_longState_36), [(.mov (.t 2))], 32)
theorem k_longState : cfun Tryz.prog 11 = some c_longState := by kernel_rfl


def sumK (l : List Hol) : Nat := (l.map (·.keys.length)).sum
theorem sumK_snoc (l : List Hol) (h : Hol) : sumK (l ++ [h]) = sumK l + h.keys.length := by simp [sumK]
theorem sumK_le : ∀ {l : List Hol}, (∀ h ∈ l, h.keys.length ≤ 100000000) → sumK l ≤ 100000000 * l.length
  | [], _ => by simp [sumK]
  | h :: r, q => by
    have h1 := q h (by simp)
    have h2 := sumK_le (l := r) (fun y hy => q y (by simp [hy]))
    simp [sumK] at *; omega
theorem sumK_mem : ∀ {l : List Hol} {h : Hol}, h ∈ l → h.keys.length ≤ sumK l
  | x :: r, h, q => by
    rcases List.mem_cons.1 q with rfl | q
    · simp [sumK]
    · have := sumK_mem q
      simp [sumK] at *; omega
/-- Has a state more than is gone through here? -/
def longS (s : Sta) : Bool := decide (100 < s.pays.length + s.holds.length ∨ 300 < s.pays.length + s.holds.length + sumK s.holds)
theorem longS_small {s : Sta} (h : longS s = false) : s.small ∧ s.pays.length ≤ 100 ∧ s.holds.length ≤ 100 ∧ ∀ h ∈ s.holds, h.keys.length ≤ 300 := by
  have h' := of_decide_eq_false h
  refine ⟨⟨by omega, by omega, fun x hx => ?_⟩, by omega, by omega, fun x hx => ?_⟩ <;>
  · have := sumK_mem hx
    omega

set_option maxHeartbeats 2000000 in
theorem longState_ok (s : Sta) (hs : s.ok) : ECalls Tryz.prog 11 [SV s] [] fun y H' => H' = [] ∧ y = .lit (.bool (longS s)) := by
  obtain ⟨ok1, ok2, ok3, ok4, ok5, ok6, ok7⟩ := id hs
  have w0 : IntKind.i64.wrap ((s.pays.length : Int) + (s.holds.length : Int)) = ((s.pays.length + s.holds.length : Nat) : Int) := by rw [wrap_i64 (by omega) (by omega)]; simp
  refine ecalls k_longState ?_
  simp [c_longState, SV, staC, w0, -Int.natCast_add]
  refine alt (fun hlt => ?_) (fun hlt => ?_)
  · simp
    have : longS s = true := by unfold longS; exact decide_eq_true (.inl (by omega))
    exact fin [] (by decide) rfl rfl rfl ⟨rfl, by simp [this]⟩
  simp [-Int.natCast_add]
  refine eloop (α := Nat) (fun i => i ≤ s.holds.length) (fun i => s.holds.length - i)
    (fun i => [.any, Ptr 0, .any, I .i64 ((s.pays.length + s.holds.length + sumK (s.holds.take i) : Nat) : Int), I .i64 i, .any, .any, .any, .any, .any, .any, .any, .any, .any, .any, .any, .any, .any, .any, .any, .any, .any, .any, .any, .any, .any, .any, .any, .any, .any, .any, .any]) (fun i => [some (.box 32 (staC s))]) 0 [0]
    (Nat.zero_le _) (by simp [Ptr, I, sumK]) (by simp [staC]) (by simp) (by simp) (by simp) ?_
  intro i hi
  have hlk := sumK_le (l := s.holds.take i) (fun h hh => (ok5 h (List.mem_of_mem_take hh)).2.2.2)
  have hlt' : (s.holds.take i).length = i := by simp; omega
  simp [Ptr, I, staC, -Int.natCast_add]
  refine alt (fun hlt => ?_) (fun hlt => ?_)
  · obtain ⟨p, hc⟩ : ∃ p, s.holds[i]? = some p := ⟨s.holds[i], by simp [hlt]⟩
    have hcb := holv_get hc
    have hk := (ok5 p (List.mem_of_getElem? hc)).2.2.2
    have hts : sumK (s.holds.take (i + 1)) = sumK (s.holds.take i) + p.keys.length := by rw [take_s hc, sumK_snoc]
    have w2 : IntKind.i64.wrap ((i : Int) + 1) = ((i + 1 : Nat) : Int) := wrap_i64 (by omega) (by omega)
    have w3 : IntKind.i64.wrap (((s.pays.length + s.holds.length + sumK (s.holds.take i) : Nat) : Int) + (p.keys.length : Int)) = ((s.pays.length + s.holds.length + sumK (s.holds.take (i + 1)) : Nat) : Int) := by
      rw [wrap_i64 (by omega) (by omega), hts]; simp; omega
    simp [hcb, holF, w2, w3, -Int.natCast_add]
    exact round (i + 1) [0] (by omega) (by omega) (by simp) (by simp) (by simp) (by simp) (by simp)
  have hil : i = s.holds.length := by omega
  subst hil
  rw [List.take_length] at *
  simp [-Int.natCast_add]
  exact fin [] (by decide) rfl rfl rfl ⟨rfl, by
    have : longS s = decide (300 < ((s.pays.length + s.holds.length + sumK s.holds : Nat) : Int)) := decide_eq_decide.2 (by omega)
    simp [this]⟩

end Go.Proofs.YtflcfdeanneoeaaGreatDoor

namespace Go.Proofs.YtflcfdeanneoeaaGreatDoor
open Go Go.EW
set_option linter.unusedSimpArgs false
set_option linter.unusedVariables false

@[simp] def l_giveState_1 (_ : Unit) : List EOp := [⟨0, (some 1), none, (.q (.box 32 (.t 0))), []⟩, ⟨1, (some 2), none, (.q (.alloc 47 [(.int .i64 0), (.int .i64 0), (.int .i64 0), (.slice none 0 0), (.slice none 0 0)])), []⟩]
@[simp] def b_giveState_2 (_ : Unit) : EB := reg0 (hid l_giveState_1) 2
@[simp] def l_giveState_4 (_ : Unit) : List EOp := [⟨6, none, none, (.fz (.sto 5 (.t 3) (.t 11))), []⟩]
@[simp] def l_giveState_3 (_ : Unit) : List EOp := ⟨0, (some 7), none, (.q (.fad 0 (.t 1))), []⟩ :: ⟨1, (some 8), none, (.q (.ldc (.t 7))), []⟩ :: ⟨2, (some 9), none, (.q (.fad 1 (.t 1))), []⟩ :: ⟨3, (some 10), none, (.q (.lda 2 (.t 9))), []⟩ :: ⟨4, (some 11), none, (.q (.build [(.int .i64 0), (.int .i64 0), (.int .i64 0), (.slice none 0 0), (.slice none 0 0)] [(0, 1, (.t 8)), (1, 2, (.t 10))])), []⟩ :: ⟨5, (some 3), none, (.q (.alloc 47 [(.int .i64 0), (.int .i64 0), (.int .i64 0), (.slice none 0 0), (.slice none 0 0)])), []⟩ :: hid l_giveState_4
@[simp] def b_giveState_5 (_ : Unit) : EB := reg0 (hid l_giveState_3) 7
@[simp] def l_giveState_6 (_ : Unit) : List EOp := [⟨0, (some 4), none, (.q (.mov (.k (.int .i64 0)))), []⟩]
@[simp] def b_giveState_7 (_ : Unit) : EB := reg0 (hid l_giveState_6) 1
@[simp] def l_giveState_8 (_ : Unit) : List EOp := [⟨0, (some 12), none, (.q (.mov (.t 4))), []⟩, ⟨1, (some 13), none, (.q (.fad 3 (.t 1))), []⟩, ⟨2, (some 14), none, (.q (.ldc (.t 13))), []⟩, ⟨3, (some 15), none, (.q (.len (.t 14))), []⟩, ⟨4, (some 16), none, (.q (.bin .lss (.t 12) (.t 15))), []⟩]
@[simp] def b_giveState_9 (_ : Unit) : EB := reg0 (hid l_giveState_8) 5
@[simp] def b_giveState_10 (_ : Unit) : EB := .cond (.t 16) .skip (.exit 0)
@[simp] def b_giveState_11 (_ : Unit) : EB := .seq (hid b_giveState_9) (hid b_giveState_10)
@[simp] def l_giveState_13 (_ : Unit) : List EOp := [⟨6, (some 25), none, (.q (.lda 36 (.t 24))), []⟩, ⟨7, (some 26), none, (.q (.bsl 36 (([(.int .i64 0), (.int .i64 0), (.int .i64 0), (.int .i64 0)] : List Value) ++ zU8) 1 [(0, (.t 25))])), []⟩, ⟨8, (some 27), none, (.app 126 36 64 (.t 20) (.t 26)), []⟩, ⟨9, (some 28), none, (.q (.fad 3 (.t 3))), []⟩, ⟨10, none, none, (.fz (.sto 1 (.t 28) (.t 27))), []⟩]
@[simp] def l_giveState_12 (_ : Unit) : List EOp := ⟨0, (some 19), none, (.q (.fad 3 (.t 3))), []⟩ :: ⟨1, (some 20), none, (.q (.ldc (.t 19))), []⟩ :: ⟨2, (some 21), none, (.q (.fad 3 (.t 1))), []⟩ :: ⟨3, (some 22), none, (.q (.ldc (.t 21))), []⟩ :: ⟨4, (some 23), none, (.q (.mov (.t 4))), []⟩ :: ⟨5, (some 24), none, (.q (.isl 36 (.t 22) (.t 23))), []⟩ :: hid l_giveState_13
@[simp] def b_giveState_14 (_ : Unit) : EB := reg0 (hid l_giveState_12) 11
@[simp] def b_giveState_15 (_ : Unit) : EB := .block 1 (hid b_giveState_14)
@[simp] def l_giveState_16 (_ : Unit) : List EOp := [⟨0, (some 17), none, (.q (.mov (.t 4))), []⟩, ⟨1, (some 18), none, (.q (.bin .add (.t 17) (.k (.int .i64 1)))), []⟩, ⟨2, (some 4), none, (.q (.mov (.t 18))), []⟩]
@[simp] def b_giveState_17 (_ : Unit) : EB := reg0 (hid l_giveState_16) 3
@[simp] def b_giveState_18 (_ : Unit) : EB := .seq (hid b_giveState_15) (hid b_giveState_17)
@[simp] def b_giveState_19 (_ : Unit) : EB := .seq (hid b_giveState_11) (hid b_giveState_18)
@[simp] def b_giveState_20 (_ : Unit) : EB := .loop (hid b_giveState_19)
@[simp] def b_giveState_21 (_ : Unit) : EB := .block 0 (hid b_giveState_20)
@[simp] def b_giveState_22 (_ : Unit) : EB := .seq (hid b_giveState_7) (hid b_giveState_21)
@[simp] def l_giveState_23 (_ : Unit) : List EOp := [⟨0, (some 5), none, (.q (.mov (.k (.int .i64 0)))), []⟩]
@[simp] def b_giveState_24 (_ : Unit) : EB := reg0 (hid l_giveState_23) 1
@[simp] def l_giveState_25 (_ : Unit) : List EOp := [⟨0, (some 29), none, (.q (.mov (.t 5))), []⟩, ⟨1, (some 30), none, (.q (.fad 4 (.t 1))), []⟩, ⟨2, (some 31), none, (.q (.ldc (.t 30))), []⟩, ⟨3, (some 32), none, (.q (.len (.t 31))), []⟩, ⟨4, (some 33), none, (.q (.bin .lss (.t 29) (.t 32))), []⟩]
@[simp] def b_giveState_26 (_ : Unit) : EB := reg0 (hid l_giveState_25) 5
@[simp] def b_giveState_27 (_ : Unit) : EB := .cond (.t 33) .skip (.exit 2)
@[simp] def b_giveState_28 (_ : Unit) : EB := .seq (hid b_giveState_26) (hid b_giveState_27)
@[simp] def l_giveState_29 (_ : Unit) : List EOp := [⟨0, (some 6), none, (.q (.mov (.k (.slice none 0 0)))), []⟩]
@[simp] def b_giveState_30 (_ : Unit) : EB := reg0 (hid l_giveState_29) 1
@[simp] def l_giveState_35 (_ : Unit) : List EOp := [⟨24, (some 60), none, (.app 128 3 40 (.t 37) (.t 59)), []⟩, ⟨25, (some 61), none, (.q (.fad 4 (.t 3))), []⟩, ⟨26, none, none, (.fz (.sto 1 (.t 61) (.t 60))), []⟩]
@[simp] def l_giveState_34 (_ : Unit) : List EOp := ⟨18, (some 54), none, (.q (.isl 3 (.t 52) (.t 53))), []⟩ :: ⟨19, (some 55), none, (.q (.fad 2 (.t 54))), []⟩ :: ⟨20, (some 56), none, (.q (.ldc (.t 55))), []⟩ :: ⟨21, (some 57), none, (.app 3 1 8 (.t 50) (.t 56)), [0, 1, 2, 3, 4, 5, 6, 7, 8, 9, 10, 11, 12, 13]⟩ :: ⟨22, (some 58), none, (.q (.build [(.int .i64 0), (.int .i64 0), (.slice none 0 0)] [(0, 1, (.t 43)), (1, 1, (.t 49)), (2, 1, (.t 57))])), []⟩ :: ⟨23, (some 59), none, (.fz (.q (.bsl 3 [(.int .i64 0), (.int .i64 0), (.slice none 0 0)] 1 [(0, (.t 58))]))), [0, 1]⟩ :: hid l_giveState_35
@[simp] def l_giveState_33 (_ : Unit) : List EOp := ⟨12, (some 48), none, (.q (.fad 1 (.t 47))), []⟩ :: ⟨13, (some 49), none, (.q (.ldc (.t 48))), []⟩ :: ⟨14, (some 50), none, (.q (.mov (.t 6))), []⟩ :: ⟨15, (some 51), none, (.q (.fad 4 (.t 1))), []⟩ :: ⟨16, (some 52), none, (.q (.ldc (.t 51))), []⟩ :: ⟨17, (some 53), none, (.q (.mov (.t 5))), []⟩ :: hid l_giveState_34
@[simp] def l_giveState_32 (_ : Unit) : List EOp := ⟨6, (some 42), none, (.q (.fad 0 (.t 41))), []⟩ :: ⟨7, (some 43), none, (.q (.ldc (.t 42))), []⟩ :: ⟨8, (some 44), none, (.q (.fad 4 (.t 1))), []⟩ :: ⟨9, (some 45), none, (.q (.ldc (.t 44))), []⟩ :: ⟨10, (some 46), none, (.q (.mov (.t 5))), []⟩ :: ⟨11, (some 47), none, (.q (.isl 3 (.t 45) (.t 46))), []⟩ :: hid l_giveState_33
@[simp] def l_giveState_31 (_ : Unit) : List EOp := ⟨0, (some 36), none, (.q (.fad 4 (.t 3))), []⟩ :: ⟨1, (some 37), none, (.q (.ldc (.t 36))), []⟩ :: ⟨2, (some 38), none, (.q (.fad 4 (.t 1))), []⟩ :: ⟨3, (some 39), none, (.q (.ldc (.t 38))), []⟩ :: ⟨4, (some 40), none, (.q (.mov (.t 5))), []⟩ :: ⟨5, (some 41), none, (.q (.isl 3 (.t 39) (.t 40))), []⟩ :: hid l_giveState_32
@[simp] def b_giveState_36 (_ : Unit) : EB := reg1 (hid l_giveState_31) 27
@[simp] def b_giveState_37 (_ : Unit) : EB := .seq (hid b_giveState_30) (hid b_giveState_36)
@[simp] def b_giveState_38 (_ : Unit) : EB := .block 3 (hid b_giveState_37)
@[simp] def l_giveState_39 (_ : Unit) : List EOp := [⟨0, (some 34), none, (.q (.mov (.t 5))), []⟩, ⟨1, (some 35), none, (.q (.bin .add (.t 34) (.k (.int .i64 1)))), []⟩, ⟨2, (some 5), none, (.q (.mov (.t 35))), []⟩]
@[simp] def b_giveState_40 (_ : Unit) : EB := reg0 (hid l_giveState_39) 3
@[simp] def b_giveState_41 (_ : Unit) : EB := .seq (hid b_giveState_38) (hid b_giveState_40)
@[simp] def b_giveState_42 (_ : Unit) : EB := .seq (hid b_giveState_28) (hid b_giveState_41)
@[simp] def b_giveState_43 (_ : Unit) : EB := .loop (hid b_giveState_42)
@[simp] def b_giveState_44 (_ : Unit) : EB := .block 2 (hid b_giveState_43)
@[simp] def b_giveState_45 (_ : Unit) : EB := .seq (hid b_giveState_24) (hid b_giveState_44)
@[simp] def l_giveState_46 (_ : Unit) : List EOp := [⟨0, (some 62), none, (.q (.lda 5 (.t 3))), []⟩, ⟨1, none, none, (.fz (.sto 5 (.t 2) (.t 62))), []⟩]
@[simp] def b_giveState_47 (_ : Unit) : EB := reg0 (hid l_giveState_46) 2
@[simp] def b_giveState_48 (_ : Unit) : EB := .seq (hid b_giveState_47) .ret
@[simp] def b_giveState_49 (_ : Unit) : EB := .seq (hid b_giveState_45) (hid b_giveState_48)
@[simp] def b_giveState_50 (_ : Unit) : EB := .seq (hid b_giveState_22) (hid b_giveState_49)
@[simp] def b_giveState_51 (_ : Unit) : EB := .seq (hid b_giveState_5) (hid b_giveState_50)
@[simp] def b_giveState_52 (_ : Unit) : EB := .seq (hid b_giveState_2) (hid b_giveState_51)
def c_giveState : EB × List QOp × Nat := ((hid b_giveState_52), [(.lda 5 (.t 2))], 63)
theorem k_giveState : cfun Tryz.prog 15 = some c_giveState := by kernel_rfl


def zC : List EC := [.fz (.lit (.int .i64 0)), .fz (.lit (.int .i64 0)), .fz (.lit (.int .i64 0)), .fz (.lit (.slice none 0 0)), .fz (.lit (.slice none 0 0))]
def gC (s : Sta) (a b : EC) : List EC := [.fz (.lit (.int .i64 s.num)), .fz (.lit (.int .i64 s.h0)), .fz (.lit (.int .i64 s.h1)), a, b]

set_option maxHeartbeats 2000000 in
theorem giveState_ok (s : Sta) (hs : s.ok) (hm : s.small) : ECalls Tryz.prog 15 [SV s] [] fun y H' => H' = [] ∧ y = SV s := by
  obtain ⟨ok1, ok2, ok3, ok4, ok5, ok6, ok7⟩ := id hs
  obtain ⟨m1, m2, m3⟩ := hm
  refine ecalls k_giveState ?_
  simp [c_giveState, SV, staC]
  refine loopW _ (weak_nil (o := 112) (k := 3) (ty := 126) (es := 36) rfl rfl (by omega)) ?_
  refine loopW _ (weak_nil (o := 112) (k := 4) (ty := 128) (es := 3) rfl rfl (by omega)) ?_
  refine eloop (α := Nat) (fun i => i ≤ s.pays.length) (fun i => s.pays.length - i)
    (fun i => [.any, Ptr 0, Ptr 1, Ptr 2, I .i64 i, .any, .any, .any, .any, .any, .any, .any, .any, .any, .any, .any, .any, .any, .any, .any, .any, .any, .any, .any, .any, .any, .any, .any, .any, .any, .any, .any, .any, .any, .any, .any, .any, .any, .any, .any, .any, .any, .any, .any, .any, .any, .any, .any, .any, .any, .any, .any, .any, .any, .any, .any, .any, .any, .any, .any, .any, .any, .any]) (fun i => [some (.box 32 (staC s)), some (.box 47 zC), some (.box 47 (gC s (.row 3 i) (.row 4 0))), some (.row 126 36 (payv (s.pays.take i))), some (.row 128 3 [])]) 0 [0, 16, 112, 160, 161]
    (Nat.zero_le _) (by simp [Ptr, I]) (by simp [zC, gC, staC, payv]) (by simp) (by simp) (by simp) ?_
  intro i hi
  simp [Ptr, I, staC, zC, gC]
  refine alt (fun hlt => ?_) (fun hlt => ?_)
  · obtain ⟨p, hc⟩ : ∃ p, s.pays[i]? = some p := ⟨s.pays[i], by simp [hlt]⟩
    have hpo := ok4 p (List.mem_of_getElem? hc)
    have hl32 := hpo.2.2.2.2
    have ht : p.lock.take 32 = p.lock := List.take_of_length_le (by omega)
    have hcb := payv_get hc
    have w2 : IntKind.i64.wrap ((i : Int) + 1) = ((i + 1 : Nat) : Int) := wrap_i64 (by omega) (by omega)
    have e2 : payv (s.pays.take (i + 1)) = payv (s.pays.take i) ++ [payF p] := by rw [take_s hc]; simp [payv]
    have hm0 : min i s.pays.length = i := by omega
    simp [hcb, payF, hl32, ht, w2, hm0, -Int.natCast_add]
    refine ⟨by omega, ?_⟩
    exact round (i + 1) [0, 1, 2, 213, 4] (by omega) (by omega) (by simp) (by simp [e2, payF]) (by simp) (by simp) (by simp)
  have hil : i = s.pays.length := by omega
  subst hil
  rw [List.take_length]
  simp
  refine eloop (α := Nat) (fun i => i ≤ s.holds.length) (fun i => s.holds.length - i)
    (fun i => [.any, Ptr 0, Ptr 1, Ptr 2, .any, I .i64 i, .any, .any, .any, .any, .any, .any, .any, .any, .any, .any, .any, .any, .any, .any, .any, .any, .any, .any, .any, .any, .any, .any, .any, .any, .any, .any, .any, .any, .any, .any, .any, .any, .any, .any, .any, .any, .any, .any, .any, .any, .any, .any, .any, .any, .any, .any, .any, .any, .any, .any, .any, .any, .any, .any, .any, .any, .any]) (fun i => [some (.box 32 (staC s)), some (.box 47 zC), some (.box 47 (gC s (.row 3 s.pays.length) (.row 4 i))), some (.row 126 36 (payv s.pays)), some (.row 128 3 (holv (s.holds.take i)))]) 0 [0, 1, 2, 3, 4]
    (Nat.zero_le _) (by simp [Ptr, I]) (by simp [zC, gC, staC, holv]) (by simp) (by simp) (by simp) ?_
  intro i hi
  simp [Ptr, I, staC, zC, gC]
  refine alt (fun hlt => ?_) (fun hlt => ?_)
  · obtain ⟨p, hc⟩ : ∃ p, s.holds[i]? = some p := ⟨s.holds[i], by simp [hlt]⟩
    have hk := m3 p (List.mem_of_getElem? hc)
    have hcb := holv_get hc
    have w2 : IntKind.i64.wrap ((i : Int) + 1) = ((i + 1 : Nat) : Int) := wrap_i64 (by omega) (by omega)
    have e2 : holv (s.holds.take (i + 1)) = holv (s.holds.take i) ++ [holF p] := by rw [take_s hc]; simp [holv]
    have hm0 : min i s.holds.length = i := by omega
    simp [hcb, holF, w2, hm0, -Int.natCast_add]
    refine ⟨⟨by omega, by omega⟩, ⟨by omega, by omega⟩, ?_⟩
    exact round (i + 1) [0, 1, 2, 3, 485] (by omega) (by omega) (by simp) (by simp [e2, holF, List.take_of_length_le]) (by simp) (by simp) (by simp)
  have hil : i = s.holds.length := by omega
  subst hil
  rw [List.take_length]
  simp
  refine finW _ (weak_frz (o := 3) (ty := 126) (es := 36) (xs := payv s.pays) rfl) ?_
  refine finW _ (weak_frz (o := 4) (ty := 128) (es := 3) (xs := holv s.holds) rfl) ?_
  exact fin [] (by decide) rfl rfl rfl ⟨rfl, by simp [List.take_of_length_le]⟩

end Go.Proofs.YtflcfdeanneoeaaGreatDoor

namespace Go.Proofs.YtflcfdeanneoeaaGreatDoor
open Go Go.EW
set_option linter.unusedSimpArgs false
set_option linter.unusedVariables false

@[simp] def l_RPlaces_1 (_ : Unit) : List EOp := [⟨0, (some 3), none, (.q (.box 28 (.t 0))), []⟩, ⟨1, (some 4), none, (.q (.box 32 (.t 1))), []⟩, ⟨2, (some 6), none, (.q (.mov (.k (.slice none 0 0)))), []⟩, ⟨3, (some 7), none, (.q (.mov (.k (.int .i64 0)))), []⟩]
@[simp] def b_RPlaces_2 (_ : Unit) : EB := reg0 (hid l_RPlaces_1) 4
@[simp] def l_RPlaces_3 (_ : Unit) : List EOp := [⟨0, (some 11), none, (.q (.lda 38 (.t 3))), []⟩, ⟨1, (some 12), none, (.q (.lda 5 (.t 4))), []⟩, ⟨2, (some 13), none, (.call 21 [(.t 11), (.t 12)]), []⟩, ⟨3, (some 8), none, (.q (.mov (.t 13))), []⟩]
@[simp] def b_RPlaces_4 (_ : Unit) : EB := reg0 (hid l_RPlaces_3) 4
@[simp] def l_RPlaces_5 (_ : Unit) : List EOp := [⟨0, (some 14), none, (.q (.mov (.t 8))), []⟩, ⟨1, (some 15), none, (.q (.bin .neq (.t 14) (.k (.int .i64 0)))), []⟩]
@[simp] def b_RPlaces_6 (_ : Unit) : EB := reg0 (hid l_RPlaces_5) 2
@[simp] def l_RPlaces_7 (_ : Unit) : List EOp := [⟨0, (some 16), none, (.q (.mov (.t 8))), []⟩, ⟨1, (some 6), none, (.q (.mov (.k (.slice none 0 0)))), []⟩, ⟨2, (some 7), none, (.q (.mov (.t 16))), []⟩]
@[simp] def b_RPlaces_8 (_ : Unit) : EB := reg0 (hid l_RPlaces_7) 3
@[simp] def b_RPlaces_9 (_ : Unit) : EB := .seq (hid b_RPlaces_8) .ret
@[simp] def b_RPlaces_10 (_ : Unit) : EB := .cond (.t 15) (hid b_RPlaces_9) .skip
@[simp] def b_RPlaces_11 (_ : Unit) : EB := .seq (hid b_RPlaces_6) (hid b_RPlaces_10)
@[simp] def l_RPlaces_12 (_ : Unit) : List EOp := [⟨0, (some 17), none, (.q (.mov (.t 2))), []⟩, ⟨1, (some 18), none, (.q (.bin .lss (.t 17) (.k (.int .i64 0)))), []⟩, ⟨2, (some 19), none, (.q (.mov (.t 18))), []⟩, ⟨3, (some 20), (some (19, false)), (.q (.mov (.t 2))), []⟩, ⟨4, (some 21), (some (19, false)), (.q (.bin .gtr (.t 20) (.k (.int .i64 1)))), []⟩, ⟨5, (some 22), none, (.q (.pick (.t 19) (.k (.bool true)) (.t 21))), []⟩]
@[simp] def b_RPlaces_13 (_ : Unit) : EB := reg0 (hid l_RPlaces_12) 6
@[simp] def l_RPlaces_14 (_ : Unit) : List EOp := [⟨0, (some 6), none, (.q (.mov (.k (.slice none 0 0)))), []⟩, ⟨1, (some 7), none, (.q (.mov (.k (.int .i64 1)))), []⟩]
@[simp] def b_RPlaces_15 (_ : Unit) : EB := reg0 (hid l_RPlaces_14) 2
@[simp] def b_RPlaces_16 (_ : Unit) : EB := .seq (hid b_RPlaces_15) .ret
@[simp] def b_RPlaces_17 (_ : Unit) : EB := .cond (.t 22) (hid b_RPlaces_16) .skip
@[simp] def b_RPlaces_18 (_ : Unit) : EB := .seq (hid b_RPlaces_13) (hid b_RPlaces_17)
@[simp] def l_RPlaces_20 (_ : Unit) : List EOp := [⟨6, (some 29), none, (.q (.ext 0 (.t 23))), []⟩, ⟨7, (some 30), none, (.q (.ext 1 (.t 23))), []⟩, ⟨8, (some 9), none, (.q (.mov (.t 29))), []⟩, ⟨9, (some 10), none, (.q (.mov (.t 30))), []⟩]
@[simp] def l_RPlaces_19 (_ : Unit) : List EOp := ⟨0, (some 24), none, (.q (.lda 38 (.t 3))), []⟩ :: ⟨1, (some 25), none, (.q (.lda 5 (.t 4))), []⟩ :: ⟨2, (some 26), none, (.q (.mov (.t 2))), []⟩ :: ⟨3, (some 27), none, (.q (.build zU8 [])), []⟩ :: ⟨4, (some 28), none, (.call 45 [(.t 24), (.t 25), (.t 26), (.t 27)]), []⟩ :: ⟨5, (some 23), none, (.q (.mov (.t 28))), []⟩ :: hid l_RPlaces_20
@[simp] def b_RPlaces_21 (_ : Unit) : EB := reg0 (hid l_RPlaces_19) 10
@[simp] def l_RPlaces_22 (_ : Unit) : List EOp := [⟨0, (some 31), none, (.q (.mov (.t 10))), []⟩, ⟨1, (some 6), none, (.q (.mov (.t 31))), []⟩, ⟨2, (some 7), none, (.q (.mov (.k (.int .i64 0)))), []⟩]
@[simp] def b_RPlaces_23 (_ : Unit) : EB := reg0 (hid l_RPlaces_22) 3
@[simp] def b_RPlaces_24 (_ : Unit) : EB := .seq (hid b_RPlaces_23) .ret
@[simp] def b_RPlaces_25 (_ : Unit) : EB := .seq (hid b_RPlaces_21) (hid b_RPlaces_24)
@[simp] def b_RPlaces_26 (_ : Unit) : EB := .seq (hid b_RPlaces_18) (hid b_RPlaces_25)
@[simp] def b_RPlaces_27 (_ : Unit) : EB := .seq (hid b_RPlaces_11) (hid b_RPlaces_26)
@[simp] def b_RPlaces_28 (_ : Unit) : EB := .seq (hid b_RPlaces_4) (hid b_RPlaces_27)
@[simp] def b_RPlaces_29 (_ : Unit) : EB := .seq (hid b_RPlaces_2) (hid b_RPlaces_28)
def c_RPlaces : EB × List QOp × Nat := ((hid b_RPlaces_29), [(.mov (.t 6)), (.mov (.t 7))], 32)
theorem k_RPlaces : cfun Tryz.prog 16 = some c_RPlaces := by kernel_rfl

@[simp] def l_RDone_1 (_ : Unit) : List EOp := [⟨0, (some 1), none, (.q (.box 69 (.t 0))), []⟩, ⟨1, (some 2), none, (.q (.alloc 69 [(.int .i64 0), (.slice none 0 0), (.slice none 0 0)])), []⟩, ⟨2, (some 3), none, (.q (.mov (.k (.int .i64 0)))), []⟩]
@[simp] def b_RDone_2 (_ : Unit) : EB := reg0 (hid l_RDone_1) 3
@[simp] def l_RDone_3 (_ : Unit) : List EOp := [⟨0, (some 5), none, (.q (.lda 3 (.t 1))), []⟩, ⟨1, (some 6), none, (.call 93 [(.t 5)]), []⟩, ⟨2, (some 4), none, (.q (.mov (.t 6))), []⟩]
@[simp] def b_RDone_4 (_ : Unit) : EB := reg0 (hid l_RDone_3) 3
@[simp] def l_RDone_5 (_ : Unit) : List EOp := [⟨0, (some 7), none, (.q (.mov (.t 4))), []⟩, ⟨1, (some 8), none, (.q (.bin .neq (.t 7) (.k (.int .i64 0)))), []⟩]
@[simp] def b_RDone_6 (_ : Unit) : EB := reg0 (hid l_RDone_5) 2
@[simp] def l_RDone_7 (_ : Unit) : List EOp := [⟨0, (some 9), none, (.q (.build [(.int .i64 0), (.slice none 0 0), (.slice none 0 0)] [])), []⟩, ⟨1, (some 10), none, (.q (.mov (.t 4))), []⟩, ⟨2, none, none, (.fz (.sto 3 (.t 2) (.t 9))), []⟩, ⟨3, (some 3), none, (.q (.mov (.t 10))), []⟩]
@[simp] def b_RDone_8 (_ : Unit) : EB := reg0 (hid l_RDone_7) 4
@[simp] def b_RDone_9 (_ : Unit) : EB := .seq (hid b_RDone_8) .ret
@[simp] def b_RDone_10 (_ : Unit) : EB := .cond (.t 8) (hid b_RDone_9) .skip
@[simp] def b_RDone_11 (_ : Unit) : EB := .seq (hid b_RDone_6) (hid b_RDone_10)
@[simp] def l_RDone_12 (_ : Unit) : List EOp := [⟨0, (some 11), none, (.q (.lda 3 (.t 1))), []⟩, ⟨1, none, none, (.fz (.sto 3 (.t 2) (.t 11))), []⟩, ⟨2, (some 3), none, (.q (.mov (.k (.int .i64 0)))), []⟩]
@[simp] def b_RDone_13 (_ : Unit) : EB := reg0 (hid l_RDone_12) 3
@[simp] def b_RDone_14 (_ : Unit) : EB := .seq (hid b_RDone_13) .ret
@[simp] def b_RDone_15 (_ : Unit) : EB := .seq (hid b_RDone_11) (hid b_RDone_14)
@[simp] def b_RDone_16 (_ : Unit) : EB := .seq (hid b_RDone_4) (hid b_RDone_15)
@[simp] def b_RDone_17 (_ : Unit) : EB := .seq (hid b_RDone_2) (hid b_RDone_16)
@[simp] def l_RCommit_1 (_ : Unit) : List EOp := [⟨0, (some 4), none, (.q (.box 28 (.t 0))), []⟩, ⟨1, (some 5), none, (.q (.box 32 (.t 1))), []⟩, ⟨2, (some 7), none, (.q (.box 23 (.t 3))), []⟩, ⟨3, (some 8), none, (.q (.alloc 69 [(.int .i64 0), (.slice none 0 0), (.slice none 0 0)])), []⟩, ⟨4, (some 9), none, (.q (.mov (.k (.int .i64 0)))), []⟩]
@[simp] def b_RCommit_2 (_ : Unit) : EB := reg0 (hid l_RCommit_1) 5
@[simp] def l_RCommit_3 (_ : Unit) : List EOp := [⟨0, (some 13), none, (.q (.lda 38 (.t 4))), []⟩, ⟨1, (some 14), none, (.q (.lda 5 (.t 5))), []⟩, ⟨2, (some 15), none, (.call 21 [(.t 13), (.t 14)]), []⟩, ⟨3, (some 10), none, (.q (.mov (.t 15))), []⟩]
@[simp] def b_RCommit_4 (_ : Unit) : EB := reg0 (hid l_RCommit_3) 4
@[simp] def l_RCommit_5 (_ : Unit) : List EOp := [⟨0, (some 16), none, (.q (.mov (.t 10))), []⟩, ⟨1, (some 17), none, (.q (.bin .neq (.t 16) (.k (.int .i64 0)))), []⟩]
@[simp] def b_RCommit_6 (_ : Unit) : EB := reg0 (hid l_RCommit_5) 2
@[simp] def l_RCommit_7 (_ : Unit) : List EOp := [⟨0, (some 18), none, (.q (.build [(.int .i64 0), (.slice none 0 0), (.slice none 0 0)] [])), []⟩, ⟨1, (some 19), none, (.q (.mov (.t 10))), []⟩, ⟨2, none, none, (.fz (.sto 3 (.t 8) (.t 18))), []⟩, ⟨3, (some 9), none, (.q (.mov (.t 19))), []⟩]
@[simp] def b_RCommit_8 (_ : Unit) : EB := reg0 (hid l_RCommit_7) 4
@[simp] def b_RCommit_9 (_ : Unit) : EB := .seq (hid b_RCommit_8) .ret
@[simp] def b_RCommit_10 (_ : Unit) : EB := .cond (.t 17) (hid b_RCommit_9) .skip
@[simp] def b_RCommit_11 (_ : Unit) : EB := .seq (hid b_RCommit_6) (hid b_RCommit_10)
@[simp] def l_RCommit_13 (_ : Unit) : List EOp := [⟨6, (some 26), none, (.q (.mov (.t 25))), []⟩, ⟨7, (some 27), (some (26, false)), (.q (.lda 32 (.t 7))), []⟩, ⟨8, (some 28), (some (26, false)), (.q (.build zU8 [])), []⟩, ⟨9, (some 29), (some (26, false)), (.q (.eqa false 32 .u8 (.t 27) (.t 28))), []⟩, ⟨10, (some 30), none, (.q (.pick (.t 26) (.k (.bool true)) (.t 29))), []⟩]
@[simp] def l_RCommit_12 (_ : Unit) : List EOp := ⟨0, (some 20), none, (.q (.mov (.t 2))), []⟩ :: ⟨1, (some 21), none, (.q (.bin .lss (.t 20) (.k (.int .i64 0)))), []⟩ :: ⟨2, (some 22), none, (.q (.mov (.t 21))), []⟩ :: ⟨3, (some 23), (some (22, false)), (.q (.mov (.t 2))), []⟩ :: ⟨4, (some 24), (some (22, false)), (.q (.bin .gtr (.t 23) (.k (.int .i64 1)))), []⟩ :: ⟨5, (some 25), none, (.q (.pick (.t 22) (.k (.bool true)) (.t 24))), []⟩ :: hid l_RCommit_13
@[simp] def b_RCommit_14 (_ : Unit) : EB := reg0 (hid l_RCommit_12) 11
@[simp] def l_RCommit_15 (_ : Unit) : List EOp := [⟨0, (some 31), none, (.q (.build [(.int .i64 0), (.slice none 0 0), (.slice none 0 0)] [])), []⟩, ⟨1, none, none, (.fz (.sto 3 (.t 8) (.t 31))), []⟩, ⟨2, (some 9), none, (.q (.mov (.k (.int .i64 1)))), []⟩]
@[simp] def b_RCommit_16 (_ : Unit) : EB := reg0 (hid l_RCommit_15) 3
@[simp] def b_RCommit_17 (_ : Unit) : EB := .seq (hid b_RCommit_16) .ret
@[simp] def b_RCommit_18 (_ : Unit) : EB := .cond (.t 30) (hid b_RCommit_17) .skip
@[simp] def b_RCommit_19 (_ : Unit) : EB := .seq (hid b_RCommit_14) (hid b_RCommit_18)
@[simp] def l_RCommit_21 (_ : Unit) : List EOp := [⟨6, (some 38), none, (.q (.ext 0 (.t 32))), []⟩, ⟨7, (some 39), none, (.q (.ext 1 (.t 32))), []⟩, ⟨8, (some 11), none, (.q (.mov (.t 38))), []⟩, ⟨9, (some 12), none, (.q (.mov (.t 39))), []⟩]
@[simp] def l_RCommit_20 (_ : Unit) : List EOp := ⟨0, (some 33), none, (.q (.lda 38 (.t 4))), []⟩ :: ⟨1, (some 34), none, (.q (.lda 5 (.t 5))), []⟩ :: ⟨2, (some 35), none, (.q (.mov (.t 2))), []⟩ :: ⟨3, (some 36), none, (.q (.lda 32 (.t 7))), []⟩ :: ⟨4, (some 37), none, (.call 45 [(.t 33), (.t 34), (.t 35), (.t 36)]), []⟩ :: ⟨5, (some 32), none, (.q (.mov (.t 37))), []⟩ :: hid l_RCommit_21
@[simp] def b_RCommit_22 (_ : Unit) : EB := reg0 (hid l_RCommit_20) 10
@[simp] def l_RCommit_24 (_ : Unit) : List EOp := [⟨6, (some 46), none, (.call 48 [(.t 45)]), []⟩, ⟨7, (some 47), none, (.q (.ext 0 (.t 46))), []⟩, ⟨8, (some 48), none, (.q (.ext 1 (.t 46))), []⟩, ⟨9, none, none, (.fz (.sto 3 (.t 8) (.t 47))), []⟩, ⟨10, (some 9), none, (.q (.mov (.t 48))), []⟩]
@[simp] def l_RCommit_23 (_ : Unit) : List EOp := ⟨0, (some 40), none, (.q (.fad 0 (.t 4))), []⟩ :: ⟨1, (some 41), none, (.q (.lda 33 (.t 40))), []⟩ :: ⟨2, (some 42), none, (.q (.build (zU8 ++ [(.int .i64 0), (.int .i64 0), (.slice none 0 0)]) [(0, 33, (.t 41))])), []⟩ :: ⟨3, (some 43), none, (.fz (.q (.bsl 35 (zU8 ++ [(.int .i64 0), (.int .i64 0), (.slice none 0 0)]) 1 [(0, (.t 42))]))), []⟩ :: ⟨4, (some 44), none, (.q (.mov (.t 11))), []⟩ :: ⟨5, (some 45), none, (.q (.build [(.int .i64 0), (.slice none 0 0), (.slice none 0 0)] [(1, 1, (.t 43)), (2, 1, (.t 44))])), []⟩ :: hid l_RCommit_24
@[simp] def b_RCommit_25 (_ : Unit) : EB := reg0 (hid l_RCommit_23) 11
@[simp] def b_RCommit_26 (_ : Unit) : EB := .seq (hid b_RCommit_25) .ret
@[simp] def b_RCommit_27 (_ : Unit) : EB := .seq (hid b_RCommit_22) (hid b_RCommit_26)
@[simp] def b_RCommit_28 (_ : Unit) : EB := .seq (hid b_RCommit_19) (hid b_RCommit_27)
@[simp] def b_RCommit_29 (_ : Unit) : EB := .seq (hid b_RCommit_11) (hid b_RCommit_28)
@[simp] def b_RCommit_30 (_ : Unit) : EB := .seq (hid b_RCommit_4) (hid b_RCommit_29)
@[simp] def b_RCommit_31 (_ : Unit) : EB := .seq (hid b_RCommit_2) (hid b_RCommit_30)
@[simp] def l_sure_1 (_ : Unit) : List EOp := [⟨0, (some 0), none, (.q (.mov (.k (.bool false)))), []⟩]
@[simp] def b_sure_2 (_ : Unit) : EB := reg0 (hid l_sure_1) 1
@[simp] def l_sure_3 (_ : Unit) : List EOp := [⟨0, (some 4), none, (.q (.build [(.int .i64 0), (.int .i64 0)] [(0, 1, (.k (.int .i64 1))), (1, 1, (.k (.int .i64 2)))])), []⟩, ⟨1, (some 5), none, (.q (.build (zU8 ++ [(.int .i64 0), (.int .i64 0), (.int .i64 0), (.int .i64 0), (.int .i64 0), (.int .i64 0)]) [(33, 1, (.k (.int .i64 100))), (34, 2, (.t 4)), (36, 1, (.k (.int .i64 3))), (37, 1, (.k (.int .i64 5)))])), []⟩, ⟨2, (some 1), none, (.q (.alloc 42 (zU8 ++ [(.int .i64 0), (.int .i64 0), (.int .i64 0), (.int .i64 0), (.int .i64 0), (.int .i64 0)]))), []⟩, ⟨3, none, none, (.sto 38 (.t 1) (.t 5)), []⟩]
@[simp] def b_sure_4 (_ : Unit) : EB := reg0 (hid l_sure_3) 4
@[simp] def l_sure_6 (_ : Unit) : List EOp := [⟨6, (some 12), none, (.q (.ext 0 (.t 6))), []⟩, ⟨7, (some 13), none, (.q (.ext 1 (.t 6))), []⟩, ⟨8, (some 2), none, (.q (.alloc 63 [(.int .i64 0), (.slice none 0 0), (.slice none 0 0)])), []⟩, ⟨9, none, none, (.fz (.sto 3 (.t 2) (.t 12))), []⟩, ⟨10, (some 3), none, (.q (.mov (.t 13))), []⟩]
@[simp] def l_sure_5 (_ : Unit) : List EOp := ⟨0, (some 7), none, (.q (.lda 38 (.t 1))), []⟩ :: ⟨1, (some 8), none, (.q (.build [(.int .i64 0), (.int .i64 0)] [(0, 1, (.k (.int .i64 50))), (1, 1, (.k (.int .i64 50)))])), []⟩ :: ⟨2, (some 9), none, (.q (.build [(.int .i64 0), (.int .i64 0), (.int .i64 0), (.slice none 0 0), (.slice none 0 0)] [(1, 2, (.t 8))])), []⟩ :: ⟨3, (some 10), none, (.q (.build zU8 [(0, 1, (.k (.int .u8 1)))])), []⟩ :: ⟨4, (some 11), none, (.call 18 [(.t 7), (.t 9), (.k (.int .i64 1)), (.t 10)]), []⟩ :: ⟨5, (some 6), none, (.q (.mov (.t 11))), []⟩ :: hid l_sure_6
@[simp] def b_sure_7 (_ : Unit) : EB := reg0 (hid l_sure_5) 11
@[simp] def l_sure_12 (_ : Unit) : List EOp := [⟨24, (some 0), none, (.q (.mov (.t 37))), []⟩]
@[simp] def l_sure_11 (_ : Unit) : List EOp := ⟨18, (some 32), (some (30, true)), (.q (.ldc (.t 31))), []⟩ :: ⟨19, (some 33), (some (30, true)), (.q (.isl 2 (.t 32) (.k (.int .i64 1)))), []⟩ :: ⟨20, (some 34), (some (30, true)), (.q (.fad 0 (.t 33))), []⟩ :: ⟨21, (some 35), (some (30, true)), (.q (.ldc (.t 34))), []⟩ :: ⟨22, (some 36), (some (30, true)), (.q (.bin .eql (.t 35) (.k (.int .i64 45)))), []⟩ :: ⟨23, (some 37), none, (.q (.pick (.t 30) (.t 36) (.k (.bool false)))), []⟩ :: hid l_sure_12
@[simp] def l_sure_10 (_ : Unit) : List EOp := ⟨12, (some 26), (some (22, true)), (.q (.fad 0 (.t 25))), []⟩ :: ⟨13, (some 27), (some (22, true)), (.q (.ldc (.t 26))), []⟩ :: ⟨14, (some 28), (some (22, true)), (.q (.bin .eql (.t 27) (.k (.int .i64 50)))), []⟩ :: ⟨15, (some 29), none, (.q (.pick (.t 22) (.t 28) (.k (.bool false)))), []⟩ :: ⟨16, (some 30), none, (.q (.mov (.t 29))), []⟩ :: ⟨17, (some 31), (some (30, true)), (.q (.fad 2 (.t 2))), []⟩ :: hid l_sure_11
@[simp] def l_sure_9 (_ : Unit) : List EOp := ⟨6, (some 20), (some (16, true)), (.q (.bin .eql (.t 19) (.k (.int .i64 2)))), []⟩ :: ⟨7, (some 21), none, (.q (.pick (.t 16) (.t 20) (.k (.bool false)))), []⟩ :: ⟨8, (some 22), none, (.q (.mov (.t 21))), []⟩ :: ⟨9, (some 23), (some (22, true)), (.q (.fad 2 (.t 2))), []⟩ :: ⟨10, (some 24), (some (22, true)), (.q (.ldc (.t 23))), []⟩ :: ⟨11, (some 25), (some (22, true)), (.q (.isl 2 (.t 24) (.k (.int .i64 0)))), []⟩ :: hid l_sure_10
@[simp] def l_sure_8 (_ : Unit) : List EOp := ⟨0, (some 14), none, (.q (.mov (.t 3))), []⟩ :: ⟨1, (some 15), none, (.q (.eqi false (.t 14))), []⟩ :: ⟨2, (some 16), none, (.q (.mov (.t 15))), []⟩ :: ⟨3, (some 17), (some (16, true)), (.q (.fad 2 (.t 2))), []⟩ :: ⟨4, (some 18), (some (16, true)), (.q (.ldc (.t 17))), []⟩ :: ⟨5, (some 19), (some (16, true)), (.q (.len (.t 18))), []⟩ :: hid l_sure_9
@[simp] def b_sure_13 (_ : Unit) : EB := reg0 (hid l_sure_8) 25
@[simp] def b_sure_14 (_ : Unit) : EB := .seq (hid b_sure_13) .ret
@[simp] def b_sure_15 (_ : Unit) : EB := .seq (hid b_sure_7) (hid b_sure_14)
@[simp] def b_sure_16 (_ : Unit) : EB := .seq (hid b_sure_4) (hid b_sure_15)
@[simp] def b_sure_17 (_ : Unit) : EB := .seq (hid b_sure_2) (hid b_sure_16)
def c_sure : EB × List QOp × Nat := ((hid b_sure_17), [(.mov (.t 0))], 38)
theorem k_sure : cfun Tryz.prog 12 = some c_sure := by kernel_rfl


theorem num_e (e : Nat) : ECalls Tryz.prog 17 [.lit (errV e)] [] fun y H' => H' = [] ∧ y = I .i64 e := by
  have h := num_ok (e : Int)
  have e1 : EN (e : Int) = .lit (errV e) := by
    unfold EN errV
    by_cases h : e = 0
    · subst h; rfl
    · rw [if_neg (by omega), if_neg h]
  rw [e1] at h
  exact h

theorem ROuts_ok (p : Prm) (s : Sta) (o : Int) (lock : List UInt8) (ho : o = 0 ∨ o = 1) (hp : p.ok) (hl : lock.length = 32) (hs : s.ok) (hw : i64 (s.h0 - p.fe)) (hn : s.pays.length ≤ 8 ∧ s.holds.length ≤ 8) (hpay : ∀ x ∈ s.pays, 10 ≤ x.am ∧ (x.fr = 0 ∨ x.fr = 1)) (hhol : ∀ h ∈ s.holds, KeysOK h.keys) :
    ECalls Tryz.prog 45 [PVv p, SV s, I .i64 o, .v (.agg (hc lock))] [] fun y H' => H' = [] ∧ y = .tup [.c (.fz (.sl 2 (outv (outsB p s o lock)))), .c (.fz (.sl 2 (plcv (plcB p s o))))] := by
  rcases ho with rfl | rfl
  · exact ROuts_0 p s lock hp hl hs hw hn hpay hhol
  · exact ROuts_1 p s lock hp hl hs hw hn hpay hhol

set_option maxHeartbeats 4000000 in
theorem RPlaces_ok (p : Prm) (s : Sta) (o : Int) (hp : p.ok) (hs : s.ok) : ECalls Tryz.prog 16 [PVv p, SV s, I .i64 o] [] fun y H' => H' = [] ∧ y = .tup [.c (.fz (.sl 2 (plcv (plcS p s o).1))), .c (.fz (.lit (.int .i64 (plcS p s o).2)))] := by
  have h1 := hp.1
  have lp := prmC_len h1
  have tp := pm_take h1
  refine ecalls k_RPlaces ?_
  simp [c_RPlaces, PVv, SV, staC, I, lp, tp]
  refine call0 (RBCheck_ok p s hp hs) (by simp [PVv, SV, staC]) ?_
  rintro y H' ⟨rfl, rfl⟩
  refine ⟨.inl (by simp [I]), le_ok rfl, ?_⟩
  by_cases c : bldE p s = 0
  rotate_left
  · rw [show plcS p s o = ([], bldE p s) from if_pos c]
    simp [c, I]
    refine finW _ (weak_nilF 6 2 rfl) ?_
    exact fin [] (by decide) rfl rfl rfl ⟨rfl, rfl⟩
  simp [c, I]
  by_cases c2 : o = 0 ∨ o = 1
  rotate_left
  · rw [show plcS p s o = ([], 1) by unfold plcS; rw [if_neg (by simpa using c), if_pos c2]]
    by_cases c3 : o < 0
    · have c4 : ¬ 0 ≤ o := by omega
      simp [c3, c4]
      refine finW _ (weak_nilF 6 2 rfl) ?_
      exact fin [] (by decide) rfl rfl rfl ⟨rfl, rfl⟩
    · have c4 : 1 < o := by omega
      have c5 : 0 ≤ o := by omega
      have c6 : ¬ o ≤ 1 := by omega
      simp [c3, c4, c5, c6]
      refine finW _ (weak_nilF 6 2 rfl) ?_
      exact fin [] (by decide) rfl rfl rfl ⟨rfl, rfl⟩
  rw [show plcS p s o = (plcB p s o, 0) by unfold plcS; rw [if_neg (by simpa using c), if_neg (fun q => q c2)]]
  obtain ⟨k1, k2, k3, k4⟩ := outs_cond c
  have c3 : ¬ o < 0 := by omega
  have c4 : ¬ 1 < o := by omega
  have c5 : 0 ≤ o := by omega
  have c6 : o ≤ 1 := by omega
  simp [c3, c4, c5, c6, PVv, SV, staC, I, lp, tp]
  refine call0 (ROuts_ok p s o hz c2 hp hz_len hs k1 k2 k3 k4) (by simp [PVv, SV, staC, I]) ?_
  rintro y H' ⟨rfl, rfl⟩
  refine ⟨.inl (by simp), le_ok rfl, ?_⟩
  simp
  exact fin [] (by decide) rfl rfl rfl ⟨rfl, rfl⟩

/-! ### the sample -/
theorem VV_nl {X : Cx} {e1 e2 : Nat} {a b c : EC} {u : Value} (h : VV X (.v (.agg [a, b, c, .fz (.lit (.slice none 0 0)), .fz (.lit (.slice none 0 0))])) u) : VV X (.v (.agg [a, b, c, .fz (.sl e1 []), .fz (.sl e2 [])])) u := by
  obtain ⟨vs, rfl, hv⟩ := h
  refine ⟨vs, rfl, by simpa using hv.1, ?_⟩
  intro i x y hx hy
  rcases i with _ | _ | _ | _ | _ | i
  · exact hv.2 0 x y hx hy
  · exact hv.2 1 x y hx hy
  · exact hv.2 2 x y hx hy
  · have := hv.2 3 _ y rfl hy
    simp at hx; subst hx
    exact nl_vr this
  · have := hv.2 4 _ y rfl hy
    simp at hx; subst hx
    exact nl_vr this
  · simp at hx
theorem ecalls_nl2 {P : Program} {f : FuncId} {e1 e2 : Nat} {a b c : EC} {x : EV} {r : List EV} {H : List EO} {post : EV → List (Option EO) → Prop} (h : ECalls P f (x :: .v (.agg [a, b, c, .fz (.sl e1 []), .fz (.sl e2 [])]) :: r) H post) :
    ECalls P f (x :: .v (.agg [a, b, c, .fz (.lit (.slice none 0 0)), .fz (.lit (.slice none 0 0))]) :: r) H post := by
  intro ρ Φ w vals r ha
  refine h ρ Φ w vals r ?_
  obtain ⟨u, us, rfl, h1, h2⟩ := ha.cons_left
  obtain ⟨u2, us2, rfl, h3, h4⟩ := h2.cons_left
  exact All2.cons h1 (All2.cons (VV_nl h3) h4)
def P0 : Prm := ⟨hz, 0, 100, 1, 2, 3, 5⟩
def lk0 : List UInt8 := 1 :: List.replicate 31 0
def s0 : Sta := ⟨0, 50, 50, [], []⟩
theorem P0_ok : P0.ok := by simp [P0, Prm.ok, i64, hz]
theorem s0_ok : s0.ok := by simp [s0, Sta.ok, i64]
theorem C0 : cmtS P0 s0 1 lk0 = (cmtT P0 s0 1 lk0, 0) := by kernel_rfl
theorem C1 : outsB P0 s0 1 lk0 = [⟨50, ownB P0 1 lk0⟩, ⟨45, allB [1]⟩] := by kernel_rfl

theorem hz_ex : hc hz = [EC.fz (FV.lit (.int .u8 0)), EC.fz (FV.lit (.int .u8 0)), EC.fz (FV.lit (.int .u8 0)), EC.fz (FV.lit (.int .u8 0)), EC.fz (FV.lit (.int .u8 0)), EC.fz (FV.lit (.int .u8 0)), EC.fz (FV.lit (.int .u8 0)), EC.fz (FV.lit (.int .u8 0)), EC.fz (FV.lit (.int .u8 0)), EC.fz (FV.lit (.int .u8 0)), EC.fz (FV.lit (.int .u8 0)), EC.fz (FV.lit (.int .u8 0)), EC.fz (FV.lit (.int .u8 0)), EC.fz (FV.lit (.int .u8 0)), EC.fz (FV.lit (.int .u8 0)), EC.fz (FV.lit (.int .u8 0)), EC.fz (FV.lit (.int .u8 0)), EC.fz (FV.lit (.int .u8 0)), EC.fz (FV.lit (.int .u8 0)), EC.fz (FV.lit (.int .u8 0)), EC.fz (FV.lit (.int .u8 0)), EC.fz (FV.lit (.int .u8 0)), EC.fz (FV.lit (.int .u8 0)), EC.fz (FV.lit (.int .u8 0)), EC.fz (FV.lit (.int .u8 0)), EC.fz (FV.lit (.int .u8 0)), EC.fz (FV.lit (.int .u8 0)), EC.fz (FV.lit (.int .u8 0)), EC.fz (FV.lit (.int .u8 0)), EC.fz (FV.lit (.int .u8 0)), EC.fz (FV.lit (.int .u8 0)), EC.fz (FV.lit (.int .u8 0))] := rfl
set_option maxHeartbeats 8000000 in
set_option maxRecDepth 8000 in
theorem sure_ok : ECalls Tryz.prog 12 [] [] fun y H' => H' = [] ∧ y = .lit (.bool true) := by
  have hop := BCommit_ok P0 s0 1 lk0 P0_ok s0_ok rfl
  rw [C0] at hop
  have hop' : ECalls Tryz.prog 18 [PVv P0, .v (.agg [iC 0, iC 50, iC 50, .fz (.lit (.slice none 0 0)), .fz (.lit (.slice none 0 0))]), I .i64 1, .v (.agg (hc lk0))] [] _ := ecalls_nl2 (e1 := 36) (e2 := 3) hop
  refine ecalls k_sure ?_
  simp [c_sure, hz_ex]
  refine call0 hop' (by kernel_rfl) ?_
  rintro y H' ⟨rfl, rfl⟩
  refine ⟨.inl (by simp [txC, iC]), le_ok rfl, ?_⟩
  simp [txC, cmtT, iC, C1, outv, outF, iF]
  exact fin [] (by decide) rfl rfl rfl ⟨rfl, rfl⟩

end Go.Proofs.YtflcfdeanneoeaaGreatDoor

namespace Go.Proofs.YtflcfdeanneoeaaGreatDoor
open Go Go.EW
set_option linter.unusedSimpArgs false
set_option linter.unusedVariables false

@[simp] def l_BuildPlaces_1 (_ : Unit) : List EOp := [⟨0, (some 3), none, (.q (.box 28 (.t 0))), []⟩, ⟨1, (some 4), none, (.q (.box 32 (.t 1))), []⟩, ⟨2, (some 6), none, (.q (.mov (.k (.bool false)))), []⟩]
@[simp] def b_BuildPlaces_2 (_ : Unit) : EB := reg0 (hid l_BuildPlaces_1) 3
@[simp] def l_BuildPlaces_3 (_ : Unit) : List EOp := [⟨0, (some 12), none, (.q (.lda 5 (.t 4))), []⟩, ⟨1, (some 13), none, (.call 11 [(.t 12)]), []⟩]
@[simp] def b_BuildPlaces_4 (_ : Unit) : EB := reg0 (hid l_BuildPlaces_3) 2
@[simp] def l_BuildPlaces_5 (_ : Unit) : List EOp := [⟨0, (some 14), none, (.call 12 []), []⟩, ⟨1, (some 6), none, (.q (.mov (.t 14))), []⟩]
@[simp] def b_BuildPlaces_6 (_ : Unit) : EB := reg0 (hid l_BuildPlaces_5) 2
@[simp] def b_BuildPlaces_7 (_ : Unit) : EB := .seq (hid b_BuildPlaces_6) .ret
@[simp] def b_BuildPlaces_8 (_ : Unit) : EB := .cond (.t 13) (hid b_BuildPlaces_7) .skip
@[simp] def b_BuildPlaces_9 (_ : Unit) : EB := .seq (hid b_BuildPlaces_4) (hid b_BuildPlaces_8)
@[simp] def l_BuildPlaces_11 (_ : Unit) : List EOp := [⟨6, (some 15), none, (.q (.mov (.t 21))), []⟩, ⟨7, (some 22), none, (.q (.ext 0 (.t 15))), []⟩, ⟨8, (some 23), none, (.q (.ext 1 (.t 15))), []⟩, ⟨9, (some 7), none, (.q (.mov (.t 22))), []⟩, ⟨10, (some 8), none, (.q (.mov (.t 23))), []⟩]
@[simp] def l_BuildPlaces_10 (_ : Unit) : List EOp := ⟨0, (some 16), none, (.q (.lda 38 (.t 3))), []⟩ :: ⟨2, (some 18), none, (.q (.lda 5 (.t 4))), []⟩ :: ⟨4, (some 20), none, (.q (.mov (.t 2))), []⟩ :: ⟨1, (some 17), none, (.call 14 [(.t 16)]), [2, 4]⟩ :: ⟨3, (some 19), none, (.call 15 [(.t 18)]), [4]⟩ :: ⟨5, (some 21), none, (.call 13 [(.t 17), (.t 19), (.t 20)]), []⟩ :: hid l_BuildPlaces_11
@[simp] def b_BuildPlaces_12 (_ : Unit) : EB := reg1 (hid l_BuildPlaces_10) 11
@[simp] def l_BuildPlaces_14 (_ : Unit) : List EOp := [⟨6, (some 30), none, (.q (.ext 1 (.t 24))), []⟩, ⟨7, (some 9), none, (.q (.mov (.t 29))), []⟩, ⟨8, (some 10), none, (.q (.mov (.t 30))), []⟩]
@[simp] def l_BuildPlaces_13 (_ : Unit) : List EOp := ⟨0, (some 25), none, (.q (.lda 38 (.t 3))), []⟩ :: ⟨1, (some 26), none, (.q (.lda 5 (.t 4))), []⟩ :: ⟨2, (some 27), none, (.q (.mov (.t 2))), []⟩ :: ⟨3, (some 28), none, (.call 16 [(.t 25), (.t 26), (.t 27)]), []⟩ :: ⟨4, (some 24), none, (.q (.mov (.t 28))), []⟩ :: ⟨5, (some 29), none, (.q (.ext 0 (.t 24))), []⟩ :: hid l_BuildPlaces_14
@[simp] def b_BuildPlaces_15 (_ : Unit) : EB := reg0 (hid l_BuildPlaces_13) 9
@[simp] def l_BuildPlaces_17 (_ : Unit) : List EOp := [⟨6, (some 37), (some (36, false)), (.q (.mov (.t 8))), []⟩, ⟨7, (some 38), (some (36, false)), (.call 17 [(.t 37)]), []⟩, ⟨8, (some 39), (some (36, false)), (.q (.mov (.t 10))), []⟩, ⟨9, (some 40), (some (36, false)), (.q (.bin .neq (.t 38) (.t 39))), []⟩, ⟨10, (some 41), none, (.q (.pick (.t 36) (.k (.bool true)) (.t 40))), []⟩]
@[simp] def l_BuildPlaces_16 (_ : Unit) : List EOp := ⟨0, (some 31), none, (.q (.mov (.t 7))), []⟩ :: ⟨1, (some 32), none, (.q (.len (.t 31))), []⟩ :: ⟨2, (some 33), none, (.q (.mov (.t 9))), []⟩ :: ⟨3, (some 34), none, (.q (.len (.t 33))), []⟩ :: ⟨4, (some 35), none, (.q (.bin .neq (.t 32) (.t 34))), []⟩ :: ⟨5, (some 36), none, (.q (.mov (.t 35))), []⟩ :: hid l_BuildPlaces_17
@[simp] def b_BuildPlaces_18 (_ : Unit) : EB := reg0 (hid l_BuildPlaces_16) 11
@[simp] def l_BuildPlaces_19 (_ : Unit) : List EOp := [⟨0, (some 6), none, (.q (.mov (.k (.bool false)))), []⟩]
@[simp] def b_BuildPlaces_20 (_ : Unit) : EB := reg0 (hid l_BuildPlaces_19) 1
@[simp] def b_BuildPlaces_21 (_ : Unit) : EB := .seq (hid b_BuildPlaces_20) .ret
@[simp] def b_BuildPlaces_22 (_ : Unit) : EB := .cond (.t 41) (hid b_BuildPlaces_21) .skip
@[simp] def b_BuildPlaces_23 (_ : Unit) : EB := .seq (hid b_BuildPlaces_18) (hid b_BuildPlaces_22)
@[simp] def l_BuildPlaces_24 (_ : Unit) : List EOp := [⟨0, (some 11), none, (.q (.mov (.k (.int .i64 0)))), []⟩]
@[simp] def b_BuildPlaces_25 (_ : Unit) : EB := reg0 (hid l_BuildPlaces_24) 1
@[simp] def l_BuildPlaces_26 (_ : Unit) : List EOp := [⟨0, (some 42), none, (.q (.mov (.t 11))), []⟩, ⟨1, (some 43), none, (.q (.mov (.t 7))), []⟩, ⟨2, (some 44), none, (.q (.len (.t 43))), []⟩, ⟨3, (some 45), none, (.q (.bin .lss (.t 42) (.t 44))), []⟩]
@[simp] def b_BuildPlaces_27 (_ : Unit) : EB := reg0 (hid l_BuildPlaces_26) 4
@[simp] def b_BuildPlaces_28 (_ : Unit) : EB := .cond (.t 45) .skip (.exit 0)
@[simp] def b_BuildPlaces_29 (_ : Unit) : EB := .seq (hid b_BuildPlaces_27) (hid b_BuildPlaces_28)
@[simp] def l_BuildPlaces_31 (_ : Unit) : List EOp := [⟨6, (some 54), none, (.q (.isl 2 (.t 52) (.t 53))), []⟩, ⟨7, (some 55), none, (.q (.lda 2 (.t 54))), []⟩, ⟨8, (some 56), none, (.q (.eqw true [(2, .i64)] (.t 51) (.t 55))), []⟩]
@[simp] def l_BuildPlaces_30 (_ : Unit) : List EOp := ⟨0, (some 48), none, (.q (.mov (.t 7))), []⟩ :: ⟨1, (some 49), none, (.q (.mov (.t 11))), []⟩ :: ⟨2, (some 50), none, (.q (.isl 2 (.t 48) (.t 49))), []⟩ :: ⟨3, (some 51), none, (.q (.lda 2 (.t 50))), []⟩ :: ⟨4, (some 52), none, (.q (.mov (.t 9))), []⟩ :: ⟨5, (some 53), none, (.q (.mov (.t 11))), []⟩ :: hid l_BuildPlaces_31
@[simp] def b_BuildPlaces_32 (_ : Unit) : EB := reg0 (hid l_BuildPlaces_30) 9
@[simp] def l_BuildPlaces_33 (_ : Unit) : List EOp := [⟨0, (some 6), none, (.q (.mov (.k (.bool false)))), []⟩]
@[simp] def b_BuildPlaces_34 (_ : Unit) : EB := reg0 (hid l_BuildPlaces_33) 1
@[simp] def b_BuildPlaces_35 (_ : Unit) : EB := .seq (hid b_BuildPlaces_34) .ret
@[simp] def b_BuildPlaces_36 (_ : Unit) : EB := .cond (.t 56) (hid b_BuildPlaces_35) .skip
@[simp] def b_BuildPlaces_37 (_ : Unit) : EB := .seq (hid b_BuildPlaces_32) (hid b_BuildPlaces_36)
@[simp] def b_BuildPlaces_38 (_ : Unit) : EB := .block 1 (hid b_BuildPlaces_37)
@[simp] def l_BuildPlaces_39 (_ : Unit) : List EOp := [⟨0, (some 46), none, (.q (.mov (.t 11))), []⟩, ⟨1, (some 47), none, (.q (.bin .add (.t 46) (.k (.int .i64 1)))), []⟩, ⟨2, (some 11), none, (.q (.mov (.t 47))), []⟩]
@[simp] def b_BuildPlaces_40 (_ : Unit) : EB := reg0 (hid l_BuildPlaces_39) 3
@[simp] def b_BuildPlaces_41 (_ : Unit) : EB := .seq (hid b_BuildPlaces_38) (hid b_BuildPlaces_40)
@[simp] def b_BuildPlaces_42 (_ : Unit) : EB := .seq (hid b_BuildPlaces_29) (hid b_BuildPlaces_41)
@[simp] def b_BuildPlaces_43 (_ : Unit) : EB := .loop (hid b_BuildPlaces_42)
@[simp] def b_BuildPlaces_44 (_ : Unit) : EB := .block 0 (hid b_BuildPlaces_43)
@[simp] def b_BuildPlaces_45 (_ : Unit) : EB := .seq (hid b_BuildPlaces_25) (hid b_BuildPlaces_44)
@[simp] def l_BuildPlaces_46 (_ : Unit) : List EOp := [⟨0, (some 57), none, (.call 12 []), []⟩, ⟨1, (some 6), none, (.q (.mov (.t 57))), []⟩]
@[simp] def b_BuildPlaces_47 (_ : Unit) : EB := reg0 (hid l_BuildPlaces_46) 2
@[simp] def b_BuildPlaces_48 (_ : Unit) : EB := .seq (hid b_BuildPlaces_47) .ret
@[simp] def b_BuildPlaces_49 (_ : Unit) : EB := .seq (hid b_BuildPlaces_45) (hid b_BuildPlaces_48)
@[simp] def b_BuildPlaces_50 (_ : Unit) : EB := .seq (hid b_BuildPlaces_23) (hid b_BuildPlaces_49)
@[simp] def b_BuildPlaces_51 (_ : Unit) : EB := .seq (hid b_BuildPlaces_15) (hid b_BuildPlaces_50)
@[simp] def b_BuildPlaces_52 (_ : Unit) : EB := .seq (hid b_BuildPlaces_12) (hid b_BuildPlaces_51)
@[simp] def b_BuildPlaces_53 (_ : Unit) : EB := .seq (hid b_BuildPlaces_9) (hid b_BuildPlaces_52)
@[simp] def b_BuildPlaces_54 (_ : Unit) : EB := .seq (hid b_BuildPlaces_2) (hid b_BuildPlaces_53)
def c_BuildPlaces : EB × List QOp × Nat := ((hid b_BuildPlaces_54), [(.mov (.t 6))], 58)
theorem k_BuildPlaces : cfun Tryz.prog 3 = some c_BuildPlaces := by kernel_rfl


theorem plcv_get {l : List (Int × Int)} {i : Nat} {q : Int × Int} (h : l[i]? = some q) : (plcv l)[i]? = some (plcF q) := by simp [plcv, h]
theorem plcB_i64 {p : Prm} {s : Sta} {o : Int} (hs : s.ok) : ∀ q ∈ plcB p s o, i64 q.1 ∧ i64 q.2 := by
  obtain ⟨ok1, ok2, ok3, ok4, ok5, ok6, ok7⟩ := id hs
  intro q hq
  unfold plcB at hq
  simp only [List.mem_append] at hq
  rcases hq with (hq | hq) | (hq | hq)
  · unfold plc1 at hq
    split at hq
    · simp at hq; subst hq; simp [i64]
    · simp at hq
  · unfold plc2 at hq
    split at hq
    · simp at hq; subst hq; simp [i64]
    · simp at hq
  · obtain ⟨y, hy, rfl⟩ := List.mem_map.1 hq
    exact ⟨by simp [i64], (ok4 y hy).1⟩
  · obtain ⟨y, hy, rfl⟩ := List.mem_map.1 hq
    exact ⟨by simp [i64], (ok5 y hy).1⟩
theorem plcS_i64 {p : Prm} {s : Sta} {o : Int} (hs : s.ok) : ∀ q ∈ (plcS p s o).1, i64 q.1 ∧ i64 q.2 := by
  unfold plcS
  split
  · simp
  split
  · simp
  exact plcB_i64 hs
theorem plcS_len {p : Prm} {s : Sta} {o : Int} : (plcS p s o).1.length ≤ 100 := by
  unfold plcS
  split
  · simp
  rename_i h
  split
  · simp
  obtain ⟨_, k, _⟩ := outs_cond (Classical.not_not.1 h)
  have h1 : (plc1 p s o).length ≤ 1 := by unfold plc1; split <;> simp
  have h2 : (plc2 p s o).length ≤ 1 := by unfold plc2; split <;> simp
  show (plcB p s o).length ≤ 100
  unfold plcB
  simp [plcP, plcH]
  omega

set_option maxHeartbeats 16000000 in
theorem BuildPlaces_ok (p : Prm) (s : Sta) (o : Int) (hp : p.ok) (hs : s.ok) (ho : i64 o) : ECalls Tryz.prog 3 [PVv p, SV s, I .i64 o] [] fun y H' => H' = [] ∧ y = .lit (.bool true) := by
  have h1 := hp.1
  have lp := prmC_len h1
  have tp := pm_take h1
  refine ecalls k_BuildPlaces ?_
  simp [c_BuildPlaces, PVv, SV, staC, I, lp, tp, -errV_0]
  refine call0 (longState_ok s hs) (by simp [SV, staC]) ?_
  rintro y H' ⟨rfl, rfl⟩
  refine ⟨.inl (by simp), le_ok rfl, ?_⟩
  cases hl1 : longS s
  rotate_left
  · simp [-errV_0]
    refine call0 sure_ok (by simp) ?_
    rintro y H' ⟨rfl, rfl⟩
    refine ⟨.inl (by simp), le_ok rfl, ?_⟩
    simp [-errV_0]
    exact fin [] (by decide) rfl rfl rfl ⟨rfl, rfl⟩
  have ms := (longS_small hl1).1
  simp [PVv, SV, staC, I, lp, tp, -errV_0]
  refine call0 (giveP_ok p h1) (by simp [PVv]) ?_
  rintro y H' ⟨rfl, rfl⟩
  refine ⟨.inl (by simp [PVv]), le_ok rfl, ?_⟩
  simp [PVv, SV, staC, I, lp, tp, -errV_0]
  refine call0 (giveState_ok s hs ms) (by simp [SV, staC]) ?_
  rintro y H' ⟨rfl, rfl⟩
  refine ⟨.inl (by simp [SV, staC]), le_ok rfl, ?_⟩
  simp [PVv, SV, staC, I, lp, tp, -errV_0]
  have hB := BPlaces_ok p s o hp hs
  have hR := RPlaces_ok p s o hp hs
  have hi := plcS_i64 (p := p) (s := s) (o := o) hs
  have hn := plcS_len (p := p) (s := s) (o := o)
  generalize plcS p s o = q at hB hR hi hn
  obtain ⟨L, e⟩ := q
  dsimp only at hB hR hi hn
  refine call0 hB (by simp [PVv, SV, staC, I]) ?_
  rintro y H' ⟨rfl, rfl⟩
  refine ⟨.inl (by simp), le_ok rfl, ?_⟩
  simp [PVv, SV, staC, I, lp, tp, -errV_0]
  refine call0 hR (by simp [PVv, SV, staC, I]) ?_
  rintro y H' ⟨rfl, rfl⟩
  refine ⟨.inl (by simp), le_ok rfl, ?_⟩
  simp [PVv, SV, staC, I, lp, tp, -errV_0]
  refine call0 (num_e e) (by simp) ?_
  rintro y H' ⟨rfl, rfl⟩
  refine ⟨.inl (by simp [I]), le_ok rfl, ?_⟩
  simp [I, -errV_0]
  refine eloop (α := Nat) (fun i => i ≤ L.length) (fun i => L.length - i)
    (fun i => [.any, .any, .any, .any, .any, .any, .any, .v (.c (.fz (.sl 2 (plcv L)))), .any, .v (.c (.fz (.sl 2 (plcv L)))), .any, I .i64 i, .any, .any, .any, .any, .any, .any, .any, .any, .any, .any, .any, .any, .any, .any, .any, .any, .any, .any, .any, .any, .any, .any, .any, .any, .any, .any, .any, .any, .any, .any, .any, .any, .any, .any, .any, .any, .any, .any, .any, .any, .any, .any, .any, .any, .any, .any]) (fun i => []) 0 []
    (Nat.zero_le _) (by simp [I]) (by simp) (by simp) (by simp) (by simp) ?_
  intro i hil
  simp [I, -errV_0]
  refine alt (fun hlt => ?_) (fun hlt => ?_)
  · obtain ⟨x, hc⟩ : ∃ x, L[i]? = some x := ⟨L[i], by simp [hlt]⟩
    have hge : (plcv L)[i]'(by simpa using hlt) = plcF x := by
      have e := plcv_get hc
      rw [List.getElem?_eq_getElem (by simpa using hlt)] at e
      exact Option.some.inj e
    obtain ⟨x1, x2⟩ := hi x (List.mem_of_getElem? hc)
    have w1 : IntKind.i64.wrap ((i : Int) + 1) = ((i + 1 : Nat) : Int) := wrap_i64 (by omega) (by omega)
    have lk : litK (unrle [(2, .i64)]) [EC.fz (FV.lit (.int .i64 x.1)), EC.fz (FV.lit (.int .i64 x.2))] = some [x.1, x.2] := by
      simp [litK, unrle, wf_i64 x1, wf_i64 x2]
    simp [hlt, hge, plcF, iF, lk, w1, -Int.natCast_add, -errV_0]
    exact round (i + 1) [] (by omega) (by omega) (by simp [I]) (by simp) (by simp) (by simp) (by simp)
  simp [-errV_0]
  refine call0 sure_ok (by simp) ?_
  rintro y H' ⟨rfl, rfl⟩
  refine ⟨.inl (by simp), le_ok rfl, ?_⟩
  simp [-errV_0]
  exact fin [] (by decide) rfl rfl rfl ⟨rfl, rfl⟩

end Go.Proofs.YtflcfdeanneoeaaGreatDoor
