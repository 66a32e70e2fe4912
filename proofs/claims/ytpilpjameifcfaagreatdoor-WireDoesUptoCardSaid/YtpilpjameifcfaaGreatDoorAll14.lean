import Derived.Test.YtpilpjameifcfaaGreatDoorAll11
import Derived.Test.YtpilpjameifcfaaGreatDoorAll12
import Derived.Test.YtpilpjameifcfaaGreatDoorAll13
import Derived.Test.YtpilpjameifcfaaGreatDoorAll5
import Derived.Test.YtpilpjameifcfaaGreatDoorAll8
import Derived.Test.YtpilpjameifcfaaGreatDoorAll9
namespace Go.Proofs.YtpilpjameifcfaaGreatDoor
open Go Go.EW
set_option linter.unusedSimpArgs false
set_option linter.unusedVariables false

@[simp] def l_longState_1 (_ : Unit) : List EOp := [⟨0, (some 1), none, (.q (.box 26 (.t 0))), []⟩, ⟨1, (some 2), none, (.q (.mov (.k (.bool false)))), []⟩]
@[simp] def b_longState_2 (_ : Unit) : EB := reg0 (hid l_longState_1) 2
@[simp] def l_longState_4 (_ : Unit) : List EOp := [⟨6, (some 11), none, (.q (.bin .add (.t 7) (.t 10))), []⟩, ⟨7, (some 3), none, (.q (.mov (.t 11))), []⟩]
@[simp] def l_longState_3 (_ : Unit) : List EOp := ⟨0, (some 5), none, (.q (.fad 3 (.t 1))), []⟩ :: ⟨1, (some 6), none, (.q (.ldc (.t 5))), []⟩ :: ⟨2, (some 7), none, (.q (.len (.t 6))), []⟩ :: ⟨3, (some 8), none, (.q (.fad 4 (.t 1))), []⟩ :: ⟨4, (some 9), none, (.q (.ldc (.t 8))), []⟩ :: ⟨5, (some 10), none, (.q (.len (.t 9))), []⟩ :: hid l_longState_4
@[simp] def b_longState_5 (_ : Unit) : EB := reg0 (hid l_longState_3) 8
@[simp] def l_longState_6 (_ : Unit) : List EOp := [⟨0, (some 12), none, (.q (.mov (.t 3))), []⟩, ⟨1, (some 13), none, (.q (.bin .gtr (.t 12) (.k (.int .i64 100)))), []⟩]
@[simp] def b_longState_7 (_ : Unit) : EB := reg0 (hid l_longState_6) 2
@[simp] def l_longState_8 (_ : Unit) : List EOp := [⟨0, (some 2), none, (.q (.mov (.k (.bool true)))), []⟩]
@[simp] def b_longState_9 (_ : Unit) : EB := reg0 (hid l_longState_8) 1
@[simp] def b_longState_10 (_ : Unit) : EB := .seq (hid b_longState_9) .ret
@[simp] def b_longState_11 (_ : Unit) : EB := .cond (.t 13) (hid b_longState_10) .skip
@[simp] def b_longState_12 (_ : Unit) : EB := .seq (hid b_longState_7) (hid b_longState_11)
@[simp] def l_longState_13 (_ : Unit) : List EOp := [⟨0, (some 4), none, (.q (.mov (.k (.int .i64 0)))), []⟩]
@[simp] def b_longState_14 (_ : Unit) : EB := reg0 (hid l_longState_13) 1
@[simp] def l_longState_15 (_ : Unit) : List EOp := [⟨0, (some 14), none, (.q (.mov (.t 4))), []⟩, ⟨1, (some 15), none, (.q (.fad 4 (.t 1))), []⟩, ⟨2, (some 16), none, (.q (.ldc (.t 15))), []⟩, ⟨3, (some 17), none, (.q (.len (.t 16))), []⟩, ⟨4, (some 18), none, (.q (.bin .lss (.t 14) (.t 17))), []⟩]
@[simp] def b_longState_16 (_ : Unit) : EB := reg0 (hid l_longState_15) 5
@[simp] def b_longState_17 (_ : Unit) : EB := .cond (.t 18) .skip (.exit 0)
@[simp] def b_longState_18 (_ : Unit) : EB := .seq (hid b_longState_16) (hid b_longState_17)
@[simp] def l_longState_20 (_ : Unit) : List EOp := [⟨6, (some 27), none, (.q (.ldc (.t 26))), []⟩, ⟨7, (some 28), none, (.q (.len (.t 27))), []⟩, ⟨8, (some 29), none, (.q (.bin .add (.t 21) (.t 28))), []⟩, ⟨9, (some 3), none, (.q (.mov (.t 29))), []⟩]
@[simp] def l_longState_19 (_ : Unit) : List EOp := ⟨0, (some 21), none, (.q (.mov (.t 3))), []⟩ :: ⟨1, (some 22), none, (.q (.fad 4 (.t 1))), []⟩ :: ⟨2, (some 23), none, (.q (.ldc (.t 22))), []⟩ :: ⟨3, (some 24), none, (.q (.mov (.t 4))), []⟩ :: ⟨4, (some 25), none, (.q (.isl 3 (.t 23) (.t 24))), []⟩ :: ⟨5, (some 26), none, (.q (.fad 2 (.t 25))), []⟩ :: hid l_longState_20
@[simp] def b_longState_21 (_ : Unit) : EB := reg0 (hid l_longState_19) 10
@[simp] def b_longState_22 (_ : Unit) : EB := .block 1 (hid b_longState_21)
@[simp] def l_longState_23 (_ : Unit) : List EOp := [⟨0, (some 19), none, (.q (.mov (.t 4))), []⟩, ⟨1, (some 20), none, (.q (.bin .add (.t 19) (.k (.int .i64 1)))), []⟩, ⟨2, (some 4), none, (.q (.mov (.t 20))), []⟩]
@[simp] def b_longState_24 (_ : Unit) : EB := reg0 (hid l_longState_23) 3
@[simp] def b_longState_25 (_ : Unit) : EB := .seq (hid b_longState_22) (hid b_longState_24)
@[simp] def b_longState_26 (_ : Unit) : EB := .seq (hid b_longState_18) (hid b_longState_25)
@[simp] def b_longState_27 (_ : Unit) : EB := .loop (hid b_longState_26)
@[simp] def b_longState_28 (_ : Unit) : EB := .block 0 (hid b_longState_27)
@[simp] def b_longState_29 (_ : Unit) : EB := .seq (hid b_longState_14) (hid b_longState_28)
@[simp] def l_longState_30 (_ : Unit) : List EOp := [⟨0, (some 30), none, (.q (.mov (.t 3))), []⟩, ⟨1, (some 31), none, (.q (.bin .gtr (.t 30) (.k (.int .i64 300)))), []⟩, ⟨2, (some 2), none, (.q (.mov (.t 31))), []⟩]
@[simp] def b_longState_31 (_ : Unit) : EB := reg0 (hid l_longState_30) 3
@[simp] def b_longState_32 (_ : Unit) : EB := .seq (hid b_longState_31) .ret
@[simp] def b_longState_33 (_ : Unit) : EB := .seq (hid b_longState_29) (hid b_longState_32)
@[simp] def b_longState_34 (_ : Unit) : EB := .seq (hid b_longState_12) (hid b_longState_33)
@[simp] def b_longState_35 (_ : Unit) : EB := .seq (hid b_longState_5) (hid b_longState_34)
@[simp] def b_longState_36 (_ : Unit) : EB := .seq (hid b_longState_2) (hid b_longState_35)
def c_longState : EB × List QOp × Nat := ((hid b_longState_36), [(.mov (.t 2))], 32)
theorem k_longState : cfun Tryz.prog 5 = some c_longState := by kernel_rfl


def sumK (l : List Hol) : Nat := (l.map (·.keys.length)).sum
theorem sumK_snoc (l : List Hol) (h : Hol) : sumK (l ++ [h]) = sumK l + h.keys.length := by simp [sumK]
theorem sumK_le : ∀ {l : List Hol}, (∀ h ∈ l, h.keys.length ≤ 100000000) → sumK l ≤ 100000000 * l.length
  | [], _ => by simp [sumK]
  | h :: r, q => by
    have h1 := q h (by simp)
    have h2 := sumK_le (l := r) (fun y hy => q y (by simp [hy]))
    simp [sumK] at *; omega
theorem sumK_mem : ∀ {l : List Hol} {h : Hol}, h ∈ l → h.keys.length ≤ sumK l
  | x :: r, h, q => by
    rcases List.mem_cons.1 q with rfl | q
    · simp [sumK]
    · have := sumK_mem q
      simp [sumK] at *; omega
/-- Has a state more than is gone through here? -/
def longS (s : Sta) : Bool := decide (100 < s.pays.length + s.holds.length ∨ 300 < s.pays.length + s.holds.length + sumK s.holds)
theorem longS_small {s : Sta} (h : longS s = false) : s.small ∧ s.pays.length ≤ 100 ∧ s.holds.length ≤ 100 ∧ ∀ h ∈ s.holds, h.keys.length ≤ 300 := by
  have h' := of_decide_eq_false h
  refine ⟨⟨by omega, by omega, fun x hx => ?_⟩, by omega, by omega, fun x hx => ?_⟩ <;>
  · have := sumK_mem hx
    omega

set_option maxHeartbeats 2000000 in
theorem longState_ok (s : Sta) (hs : s.ok) : ECalls Tryz.prog 5 [SV s] [] fun y H' => H' = [] ∧ y = .lit (.bool (longS s)) := by
  obtain ⟨ok1, ok2, ok3, ok4, ok5, ok6, ok7⟩ := id hs
  have w0 : IntKind.i64.wrap ((s.pays.length : Int) + (s.holds.length : Int)) = ((s.pays.length + s.holds.length : Nat) : Int) := by rw [wrap_i64 (by omega) (by omega)]; simp
  refine ecalls k_longState ?_
  simp [c_longState, SV, staC, w0, -Int.natCast_add]
  refine alt (fun hlt => ?_) (fun hlt => ?_)
  · simp
    have : longS s = true := by unfold longS; exact decide_eq_true (.inl (by omega))
    exact fin [] (by decide) rfl rfl rfl ⟨rfl, by simp [this]⟩
  simp [-Int.natCast_add]
  refine eloop (α := Nat) (fun i => i ≤ s.holds.length) (fun i => s.holds.length - i)
    (fun i => [.any, Ptr 0, .any, I .i64 ((s.pays.length + s.holds.length + sumK (s.holds.take i) : Nat) : Int), I .i64 i, .any, .any, .any, .any, .any, .any, .any, .any, .any, .any, .any, .any, .any, .any, .any, .any, .any, .any, .any, .any, .any, .any, .any, .any, .any, .any, .any]) (fun i => [some (.box 26 (staC s))]) 0 [0]
    (Nat.zero_le _) (by simp [Ptr, I, sumK]) (by simp [staC]) (by simp) (by simp) (by simp) ?_
  intro i hi
  have hlk := sumK_le (l := s.holds.take i) (fun h hh => (ok5 h (List.mem_of_mem_take hh)).2.2.2)
  have hlt' : (s.holds.take i).length = i := by simp; omega
  simp [Ptr, I, staC, -Int.natCast_add]
  refine alt (fun hlt => ?_) (fun hlt => ?_)
  · obtain ⟨p, hc⟩ : ∃ p, s.holds[i]? = some p := ⟨s.holds[i], by simp [hlt]⟩
    have hcb := holv_get hc
    have hk := (ok5 p (List.mem_of_getElem? hc)).2.2.2
    have hts : sumK (s.holds.take (i + 1)) = sumK (s.holds.take i) + p.keys.length := by rw [take_s hc, sumK_snoc]
    have w2 : IntKind.i64.wrap ((i : Int) + 1) = ((i + 1 : Nat) : Int) := wrap_i64 (by omega) (by omega)
    have w3 : IntKind.i64.wrap (((s.pays.length + s.holds.length + sumK (s.holds.take i) : Nat) : Int) + (p.keys.length : Int)) = ((s.pays.length + s.holds.length + sumK (s.holds.take (i + 1)) : Nat) : Int) := by
      rw [wrap_i64 (by omega) (by omega), hts]; simp; omega
    simp [hcb, holF, w2, w3, -Int.natCast_add]
    exact round (i + 1) [0] (by omega) (by omega) (by simp) (by simp) (by simp) (by simp) (by simp)
  have hil : i = s.holds.length := by omega
  subst hil
  rw [List.take_length] at *
  simp [-Int.natCast_add]
  exact fin [] (by decide) rfl rfl rfl ⟨rfl, by
    have : longS s = decide (300 < ((s.pays.length + s.holds.length + sumK s.holds : Nat) : Int)) := decide_eq_decide.2 (by omega)
    simp [this]⟩

end Go.Proofs.YtpilpjameifcfaaGreatDoor

namespace Go.Proofs.YtpilpjameifcfaaGreatDoor
open Go Go.EW
set_option linter.unusedSimpArgs false
set_option linter.unusedVariables false

@[simp] def l_giveState_1 (_ : Unit) : List EOp := [⟨0, (some 1), none, (.q (.box 26 (.t 0))), []⟩, ⟨1, (some 2), none, (.q (.alloc 39 [(.int .i64 0), (.int .i64 0), (.int .i64 0), (.slice none 0 0), (.slice none 0 0)])), []⟩]
@[simp] def b_giveState_2 (_ : Unit) : EB := reg0 (hid l_giveState_1) 2
@[simp] def l_giveState_4 (_ : Unit) : List EOp := [⟨6, none, none, (.fz (.sto 5 (.t 3) (.t 11))), []⟩]
@[simp] def l_giveState_3 (_ : Unit) : List EOp := ⟨0, (some 7), none, (.q (.fad 0 (.t 1))), []⟩ :: ⟨1, (some 8), none, (.q (.ldc (.t 7))), []⟩ :: ⟨2, (some 9), none, (.q (.fad 1 (.t 1))), []⟩ :: ⟨3, (some 10), none, (.q (.lda 2 (.t 9))), []⟩ :: ⟨4, (some 11), none, (.q (.build [(.int .i64 0), (.int .i64 0), (.int .i64 0), (.slice none 0 0), (.slice none 0 0)] [(0, 1, (.t 8)), (1, 2, (.t 10))])), []⟩ :: ⟨5, (some 3), none, (.q (.alloc 39 [(.int .i64 0), (.int .i64 0), (.int .i64 0), (.slice none 0 0), (.slice none 0 0)])), []⟩ :: hid l_giveState_4
@[simp] def b_giveState_5 (_ : Unit) : EB := reg0 (hid l_giveState_3) 7
@[simp] def l_giveState_6 (_ : Unit) : List EOp := [⟨0, (some 4), none, (.q (.mov (.k (.int .i64 0)))), []⟩]
@[simp] def b_giveState_7 (_ : Unit) : EB := reg0 (hid l_giveState_6) 1
@[simp] def l_giveState_8 (_ : Unit) : List EOp := [⟨0, (some 12), none, (.q (.mov (.t 4))), []⟩, ⟨1, (some 13), none, (.q (.fad 3 (.t 1))), []⟩, ⟨2, (some 14), none, (.q (.ldc (.t 13))), []⟩, ⟨3, (some 15), none, (.q (.len (.t 14))), []⟩, ⟨4, (some 16), none, (.q (.bin .lss (.t 12) (.t 15))), []⟩]
@[simp] def b_giveState_9 (_ : Unit) : EB := reg0 (hid l_giveState_8) 5
@[simp] def b_giveState_10 (_ : Unit) : EB := .cond (.t 16) .skip (.exit 0)
@[simp] def b_giveState_11 (_ : Unit) : EB := .seq (hid b_giveState_9) (hid b_giveState_10)
@[simp] def l_giveState_13 (_ : Unit) : List EOp := [⟨6, (some 25), none, (.q (.lda 36 (.t 24))), []⟩, ⟨7, (some 26), none, (.q (.bsl 36 (([(.int .i64 0), (.int .i64 0), (.int .i64 0), (.int .i64 0)] : List Value) ++ zU8) 1 [(0, (.t 25))])), []⟩, ⟨8, (some 27), none, (.app 45 36 64 (.t 20) (.t 26)), []⟩, ⟨9, (some 28), none, (.q (.fad 3 (.t 3))), []⟩, ⟨10, none, none, (.fz (.sto 1 (.t 28) (.t 27))), []⟩]
@[simp] def l_giveState_12 (_ : Unit) : List EOp := ⟨0, (some 19), none, (.q (.fad 3 (.t 3))), []⟩ :: ⟨1, (some 20), none, (.q (.ldc (.t 19))), []⟩ :: ⟨2, (some 21), none, (.q (.fad 3 (.t 1))), []⟩ :: ⟨3, (some 22), none, (.q (.ldc (.t 21))), []⟩ :: ⟨4, (some 23), none, (.q (.mov (.t 4))), []⟩ :: ⟨5, (some 24), none, (.q (.isl 36 (.t 22) (.t 23))), []⟩ :: hid l_giveState_13
@[simp] def b_giveState_14 (_ : Unit) : EB := reg0 (hid l_giveState_12) 11
@[simp] def b_giveState_15 (_ : Unit) : EB := .block 1 (hid b_giveState_14)
@[simp] def l_giveState_16 (_ : Unit) : List EOp := [⟨0, (some 17), none, (.q (.mov (.t 4))), []⟩, ⟨1, (some 18), none, (.q (.bin .add (.t 17) (.k (.int .i64 1)))), []⟩, ⟨2, (some 4), none, (.q (.mov (.t 18))), []⟩]
@[simp] def b_giveState_17 (_ : Unit) : EB := reg0 (hid l_giveState_16) 3
@[simp] def b_giveState_18 (_ : Unit) : EB := .seq (hid b_giveState_15) (hid b_giveState_17)
@[simp] def b_giveState_19 (_ : Unit) : EB := .seq (hid b_giveState_11) (hid b_giveState_18)
@[simp] def b_giveState_20 (_ : Unit) : EB := .loop (hid b_giveState_19)
@[simp] def b_giveState_21 (_ : Unit) : EB := .block 0 (hid b_giveState_20)
@[simp] def b_giveState_22 (_ : Unit) : EB := .seq (hid b_giveState_7) (hid b_giveState_21)
@[simp] def l_giveState_23 (_ : Unit) : List EOp := [⟨0, (some 5), none, (.q (.mov (.k (.int .i64 0)))), []⟩]
@[simp] def b_giveState_24 (_ : Unit) : EB := reg0 (hid l_giveState_23) 1
@[simp] def l_giveState_25 (_ : Unit) : List EOp := [⟨0, (some 29), none, (.q (.mov (.t 5))), []⟩, ⟨1, (some 30), none, (.q (.fad 4 (.t 1))), []⟩, ⟨2, (some 31), none, (.q (.ldc (.t 30))), []⟩, ⟨3, (some 32), none, (.q (.len (.t 31))), []⟩, ⟨4, (some 33), none, (.q (.bin .lss (.t 29) (.t 32))), []⟩]
@[simp] def b_giveState_26 (_ : Unit) : EB := reg0 (hid l_giveState_25) 5
@[simp] def b_giveState_27 (_ : Unit) : EB := .cond (.t 33) .skip (.exit 2)
@[simp] def b_giveState_28 (_ : Unit) : EB := .seq (hid b_giveState_26) (hid b_giveState_27)
@[simp] def l_giveState_29 (_ : Unit) : List EOp := [⟨0, (some 6), none, (.q (.mov (.k (.slice none 0 0)))), []⟩]
@[simp] def b_giveState_30 (_ : Unit) : EB := reg0 (hid l_giveState_29) 1
@[simp] def l_giveState_35 (_ : Unit) : List EOp := [⟨24, (some 60), none, (.app 83 3 40 (.t 37) (.t 59)), []⟩, ⟨25, (some 61), none, (.q (.fad 4 (.t 3))), []⟩, ⟨26, none, none, (.fz (.sto 1 (.t 61) (.t 60))), []⟩]
@[simp] def l_giveState_34 (_ : Unit) : List EOp := ⟨18, (some 54), none, (.q (.isl 3 (.t 52) (.t 53))), []⟩ :: ⟨19, (some 55), none, (.q (.fad 2 (.t 54))), []⟩ :: ⟨20, (some 56), none, (.q (.ldc (.t 55))), []⟩ :: ⟨21, (some 57), none, (.app 3 1 8 (.t 50) (.t 56)), [0, 1, 2, 3, 4, 5, 6, 7, 8, 9, 10, 11, 12, 13]⟩ :: ⟨22, (some 58), none, (.q (.build [(.int .i64 0), (.int .i64 0), (.slice none 0 0)] [(0, 1, (.t 43)), (1, 1, (.t 49)), (2, 1, (.t 57))])), []⟩ :: ⟨23, (some 59), none, (.fz (.q (.bsl 3 [(.int .i64 0), (.int .i64 0), (.slice none 0 0)] 1 [(0, (.t 58))]))), [0, 1]⟩ :: hid l_giveState_35
@[simp] def l_giveState_33 (_ : Unit) : List EOp := ⟨12, (some 48), none, (.q (.fad 1 (.t 47))), []⟩ :: ⟨13, (some 49), none, (.q (.ldc (.t 48))), []⟩ :: ⟨14, (some 50), none, (.q (.mov (.t 6))), []⟩ :: ⟨15, (some 51), none, (.q (.fad 4 (.t 1))), []⟩ :: ⟨16, (some 52), none, (.q (.ldc (.t 51))), []⟩ :: ⟨17, (some 53), none, (.q (.mov (.t 5))), []⟩ :: hid l_giveState_34
@[simp] def l_giveState_32 (_ : Unit) : List EOp := ⟨6, (some 42), none, (.q (.fad 0 (.t 41))), []⟩ :: ⟨7, (some 43), none, (.q (.ldc (.t 42))), []⟩ :: ⟨8, (some 44), none, (.q (.fad 4 (.t 1))), []⟩ :: ⟨9, (some 45), none, (.q (.ldc (.t 44))), []⟩ :: ⟨10, (some 46), none, (.q (.mov (.t 5))), []⟩ :: ⟨11, (some 47), none, (.q (.isl 3 (.t 45) (.t 46))), []⟩ :: hid l_giveState_33
@[simp] def l_giveState_31 (_ : Unit) : List EOp := ⟨0, (some 36), none, (.q (.fad 4 (.t 3))), []⟩ :: ⟨1, (some 37), none, (.q (.ldc (.t 36))), []⟩ :: ⟨2, (some 38), none, (.q (.fad 4 (.t 1))), []⟩ :: ⟨3, (some 39), none, (.q (.ldc (.t 38))), []⟩ :: ⟨4, (some 40), none, (.q (.mov (.t 5))), []⟩ :: ⟨5, (some 41), none, (.q (.isl 3 (.t 39) (.t 40))), []⟩ :: hid l_giveState_32
@[simp] def b_giveState_36 (_ : Unit) : EB := reg1 (hid l_giveState_31) 27
@[simp] def b_giveState_37 (_ : Unit) : EB := .seq (hid b_giveState_30) (hid b_giveState_36)
@[simp] def b_giveState_38 (_ : Unit) : EB := .block 3 (hid b_giveState_37)
@[simp] def l_giveState_39 (_ : Unit) : List EOp := [⟨0, (some 34), none, (.q (.mov (.t 5))), []⟩, ⟨1, (some 35), none, (.q (.bin .add (.t 34) (.k (.int .i64 1)))), []⟩, ⟨2, (some 5), none, (.q (.mov (.t 35))), []⟩]
@[simp] def b_giveState_40 (_ : Unit) : EB := reg0 (hid l_giveState_39) 3
@[simp] def b_giveState_41 (_ : Unit) : EB := .seq (hid b_giveState_38) (hid b_giveState_40)
@[simp] def b_giveState_42 (_ : Unit) : EB := .seq (hid b_giveState_28) (hid b_giveState_41)
@[simp] def b_giveState_43 (_ : Unit) : EB := .loop (hid b_giveState_42)
@[simp] def b_giveState_44 (_ : Unit) : EB := .block 2 (hid b_giveState_43)
@[simp] def b_giveState_45 (_ : Unit) : EB := .seq (hid b_giveState_24) (hid b_giveState_44)
@[simp] def l_giveState_46 (_ : Unit) : List EOp := [⟨0, (some 62), none, (.q (.lda 5 (.t 3))), []⟩, ⟨1, none, none, (.fz (.sto 5 (.t 2) (.t 62))), []⟩]
@[simp] def b_giveState_47 (_ : Unit) : EB := reg0 (hid l_giveState_46) 2
@[simp] def b_giveState_48 (_ : Unit) : EB := .seq (hid b_giveState_47) .ret
@[simp] def b_giveState_49 (_ : Unit) : EB := .seq (hid b_giveState_45) (hid b_giveState_48)
@[simp] def b_giveState_50 (_ : Unit) : EB := .seq (hid b_giveState_22) (hid b_giveState_49)
@[simp] def b_giveState_51 (_ : Unit) : EB := .seq (hid b_giveState_5) (hid b_giveState_50)
@[simp] def b_giveState_52 (_ : Unit) : EB := .seq (hid b_giveState_2) (hid b_giveState_51)
def c_giveState : EB × List QOp × Nat := ((hid b_giveState_52), [(.lda 5 (.t 2))], 63)
theorem k_giveState : cfun Tryz.prog 8 = some c_giveState := by kernel_rfl


def zC : List EC := [.fz (.lit (.int .i64 0)), .fz (.lit (.int .i64 0)), .fz (.lit (.int .i64 0)), .fz (.lit (.slice none 0 0)), .fz (.lit (.slice none 0 0))]
def gC (s : Sta) (a b : EC) : List EC := [.fz (.lit (.int .i64 s.num)), .fz (.lit (.int .i64 s.h0)), .fz (.lit (.int .i64 s.h1)), a, b]

set_option maxHeartbeats 2000000 in
theorem giveState_ok (s : Sta) (hs : s.ok) (hm : s.small) : ECalls Tryz.prog 8 [SV s] [] fun y H' => H' = [] ∧ y = SV s := by
  obtain ⟨ok1, ok2, ok3, ok4, ok5, ok6, ok7⟩ := id hs
  obtain ⟨m1, m2, m3⟩ := hm
  refine ecalls k_giveState ?_
  simp [c_giveState, SV, staC]
  refine loopW _ (weak_nil (o := 112) (k := 3) (ty := 45) (es := 36) rfl rfl (by omega)) ?_
  refine loopW _ (weak_nil (o := 112) (k := 4) (ty := 83) (es := 3) rfl rfl (by omega)) ?_
  refine eloop (α := Nat) (fun i => i ≤ s.pays.length) (fun i => s.pays.length - i)
    (fun i => [.any, Ptr 0, Ptr 1, Ptr 2, I .i64 i, .any, .any, .any, .any, .any, .any, .any, .any, .any, .any, .any, .any, .any, .any, .any, .any, .any, .any, .any, .any, .any, .any, .any, .any, .any, .any, .any, .any, .any, .any, .any, .any, .any, .any, .any, .any, .any, .any, .any, .any, .any, .any, .any, .any, .any, .any, .any, .any, .any, .any, .any, .any, .any, .any, .any, .any, .any, .any]) (fun i => [some (.box 26 (staC s)), some (.box 39 zC), some (.box 39 (gC s (.row 3 i) (.row 4 0))), some (.row 45 36 (payv (s.pays.take i))), some (.row 83 3 [])]) 0 [0, 16, 112, 160, 161]
    (Nat.zero_le _) (by simp [Ptr, I]) (by simp [zC, gC, staC, payv]) (by simp) (by simp) (by simp) ?_
  intro i hi
  simp [Ptr, I, staC, zC, gC]
  refine alt (fun hlt => ?_) (fun hlt => ?_)
  · obtain ⟨p, hc⟩ : ∃ p, s.pays[i]? = some p := ⟨s.pays[i], by simp [hlt]⟩
    have hpo := ok4 p (List.mem_of_getElem? hc)
    have hl32 := hpo.2.2.2.2
    have ht : p.lock.take 32 = p.lock := List.take_of_length_le (by omega)
    have hcb := payv_get hc
    have w2 : IntKind.i64.wrap ((i : Int) + 1) = ((i + 1 : Nat) : Int) := wrap_i64 (by omega) (by omega)
    have e2 : payv (s.pays.take (i + 1)) = payv (s.pays.take i) ++ [payF p] := by rw [take_s hc]; simp [payv]
    have hm0 : min i s.pays.length = i := by omega
    simp [hcb, payF, hl32, ht, w2, hm0, -Int.natCast_add]
    refine ⟨by omega, ?_⟩
    exact round (i + 1) [0, 1, 2, 213, 4] (by omega) (by omega) (by simp) (by simp [e2, payF]) (by simp) (by simp) (by simp)
  have hil : i = s.pays.length := by omega
  subst hil
  rw [List.take_length]
  simp
  refine eloop (α := Nat) (fun i => i ≤ s.holds.length) (fun i => s.holds.length - i)
    (fun i => [.any, Ptr 0, Ptr 1, Ptr 2, .any, I .i64 i, .any, .any, .any, .any, .any, .any, .any, .any, .any, .any, .any, .any, .any, .any, .any, .any, .any, .any, .any, .any, .any, .any, .any, .any, .any, .any, .any, .any, .any, .any, .any, .any, .any, .any, .any, .any, .any, .any, .any, .any, .any, .any, .any, .any, .any, .any, .any, .any, .any, .any, .any, .any, .any, .any, .any, .any, .any]) (fun i => [some (.box 26 (staC s)), some (.box 39 zC), some (.box 39 (gC s (.row 3 s.pays.length) (.row 4 i))), some (.row 45 36 (payv s.pays)), some (.row 83 3 (holv (s.holds.take i)))]) 0 [0, 1, 2, 3, 4]
    (Nat.zero_le _) (by simp [Ptr, I]) (by simp [zC, gC, staC, holv]) (by simp) (by simp) (by simp) ?_
  intro i hi
  simp [Ptr, I, staC, zC, gC]
  refine alt (fun hlt => ?_) (fun hlt => ?_)
  · obtain ⟨p, hc⟩ : ∃ p, s.holds[i]? = some p := ⟨s.holds[i], by simp [hlt]⟩
    have hk := m3 p (List.mem_of_getElem? hc)
    have hcb := holv_get hc
    have w2 : IntKind.i64.wrap ((i : Int) + 1) = ((i + 1 : Nat) : Int) := wrap_i64 (by omega) (by omega)
    have e2 : holv (s.holds.take (i + 1)) = holv (s.holds.take i) ++ [holF p] := by rw [take_s hc]; simp [holv]
    have hm0 : min i s.holds.length = i := by omega
    simp [hcb, holF, w2, hm0, -Int.natCast_add]
    refine ⟨⟨by omega, by omega⟩, ⟨by omega, by omega⟩, ?_⟩
    exact round (i + 1) [0, 1, 2, 3, 485] (by omega) (by omega) (by simp) (by simp [e2, holF, List.take_of_length_le]) (by simp) (by simp) (by simp)
  have hil : i = s.holds.length := by omega
  subst hil
  rw [List.take_length]
  simp
  refine finW _ (weak_frz (o := 3) (ty := 45) (es := 36) (xs := payv s.pays) rfl) ?_
  refine finW _ (weak_frz (o := 4) (ty := 83) (es := 3) (xs := holv s.holds) rfl) ?_
  exact fin [] (by decide) rfl rfl rfl ⟨rfl, by simp [List.take_of_length_le]⟩

end Go.Proofs.YtpilpjameifcfaaGreatDoor

namespace Go.Proofs.YtpilpjameifcfaaGreatDoor
open Go Go.EW
set_option linter.unusedSimpArgs false
set_option linter.unusedVariables false

@[simp] def l_giveOp_1 (_ : Unit) : List EOp := [⟨0, (some 1), none, (.q (.box 33 (.t 0))), []⟩, ⟨1, (some 2), none, (.q (.alloc 47 (([(.int .i64 0), (.int .i64 0), (.int .i64 0), (.int .i64 0), (.int .i64 0), (.int .i64 0), (.int .i64 0)] : List Value) ++ zU8 ++ [(.slice none 0 0)]))), []⟩]
@[simp] def b_giveOp_2 (_ : Unit) : EB := reg0 (hid l_giveOp_1) 2
@[simp] def l_giveOp_3 (_ : Unit) : List EOp := [⟨0, (some 3), none, (.q (.mov (.k (.slice none 0 0)))), []⟩]
@[simp] def b_giveOp_4 (_ : Unit) : EB := reg0 (hid l_giveOp_3) 1
@[simp] def l_giveOp_7 (_ : Unit) : List EOp := [⟨12, (some 16), none, (.q (.build (([(.int .i64 0), (.int .i64 0), (.int .i64 0), (.int .i64 0), (.int .i64 0), (.int .i64 0), (.int .i64 0)] : List Value) ++ zU8 ++ [(.slice none 0 0)]) [(0, 1, (.t 5)), (1, 1, (.t 7)), (2, 1, (.t 9)), (3, 36, (.t 11)), (39, 1, (.t 15))])), []⟩, ⟨13, none, none, (.fz (.sto 40 (.t 2) (.t 16))), []⟩]
@[simp] def l_giveOp_6 (_ : Unit) : List EOp := ⟨6, (some 10), none, (.q (.fad 3 (.t 1))), []⟩ :: ⟨7, (some 11), none, (.q (.lda 36 (.t 10))), []⟩ :: ⟨8, (some 12), none, (.q (.mov (.t 3))), []⟩ :: ⟨9, (some 13), none, (.q (.fad 39 (.t 1))), []⟩ :: ⟨10, (some 14), none, (.q (.ldc (.t 13))), []⟩ :: ⟨11, (some 15), none, (.app 5 1 1 (.t 12) (.t 14)), [0, 1, 2, 3, 4, 5, 6, 7]⟩ :: hid l_giveOp_7
@[simp] def l_giveOp_5 (_ : Unit) : List EOp := ⟨0, (some 4), none, (.q (.fad 0 (.t 1))), []⟩ :: ⟨1, (some 5), none, (.q (.ldc (.t 4))), []⟩ :: ⟨2, (some 6), none, (.q (.fad 1 (.t 1))), []⟩ :: ⟨3, (some 7), none, (.q (.ldc (.t 6))), []⟩ :: ⟨4, (some 8), none, (.q (.fad 2 (.t 1))), []⟩ :: ⟨5, (some 9), none, (.q (.ldc (.t 8))), []⟩ :: hid l_giveOp_6
@[simp] def b_giveOp_8 (_ : Unit) : EB := reg1 (hid l_giveOp_5) 14
@[simp] def b_giveOp_9 (_ : Unit) : EB := .seq (hid b_giveOp_8) .ret
@[simp] def b_giveOp_10 (_ : Unit) : EB := .seq (hid b_giveOp_4) (hid b_giveOp_9)
@[simp] def b_giveOp_11 (_ : Unit) : EB := .seq (hid b_giveOp_2) (hid b_giveOp_10)
def c_giveOp : EB × List QOp × Nat := ((hid b_giveOp_11), [(.lda 40 (.t 2))], 17)
theorem k_giveOp : cfun Tryz.prog 9 = some c_giveOp := by kernel_rfl


@[simp] theorem fz_hc (o es : Nat) (xs : List (List FV)) (l : List UInt8) : (hc l).map (fzE o es xs) = hc l := by
  induction l with
  | nil => rfl
  | cons b r ih =>
    have e : hc (b :: r) = .fz (.lit (.int .u8 (b.toNat : Int))) :: hc r := rfl
    rw [e, List.map_cons, ih]
    rfl

set_option maxRecDepth 8000 in
set_option maxHeartbeats 8000000 in
theorem giveOp_ok (o : WOp) (ho : o.ok) : ECalls Tryz.prog 9 [OpV o] [] fun y H' => H' = [] ∧ y = OpV o := by
  have h32 := ho.2.2.2.1.2.2.2.2
  have hs := ho.2.2.2.2
  have t32 : o.pay.lock.take 32 = o.pay.lock := List.take_of_length_le (by omega)
  have hcn : hc ([] : List UInt8) = [] := rfl
  have z33 := dr33 hz_len
  refine ecalls k_giveOp ?_
  simp [c_giveOp, OpV, wopC, h32, t32, hcn, z33, tk33 h32, dr33 h32]
  refine ⟨⟨by omega, by omega⟩, ?_⟩
  refine finW _ (weak_frz (o := 224) (ty := 5) (es := 1) (xs := bsv o.sec) rfl) ?_
  exact fin [] (by decide) (v := OpV o) (by simp [resV, resT, evT, asT, OpV, wopC, fzEO, h32, t32, hcn, tk33 h32]) (by simp [conR, conTs, conT, OpV, wopC]) rfl ⟨rfl, rfl⟩

end Go.Proofs.YtpilpjameifcfaaGreatDoor

namespace Go.Proofs.YtpilpjameifcfaaGreatDoor
open Go Go.EW
set_option linter.unusedSimpArgs false
set_option linter.unusedVariables false

@[simp] def l_Wlays_1 (_ : Unit) : List EOp := [⟨0, (some 2), none, (.q (.box 39 (.t 0))), []⟩, ⟨1, (some 3), none, (.q (.box 3 (.t 1))), []⟩, ⟨2, (some 4), none, (.q (.mov (.k (.int .i64 0)))), []⟩]
@[simp] def b_Wlays_2 (_ : Unit) : EB := reg0 (hid l_Wlays_1) 3
@[simp] def l_Wlays_3 (_ : Unit) : List EOp := [⟨0, (some 6), none, (.q (.fad 3 (.t 2))), []⟩, ⟨1, (some 7), none, (.q (.ldc (.t 6))), []⟩, ⟨2, (some 8), none, (.q (.mkf 64 [(.t 3)])), []⟩, ⟨3, (some 9), none, (.call 63 [(.t 7), (.t 8)]), []⟩, ⟨4, (some 5), none, (.q (.mov (.t 9))), []⟩]
@[simp] def b_Wlays_4 (_ : Unit) : EB := reg0 (hid l_Wlays_3) 5
@[simp] def l_Wlays_5 (_ : Unit) : List EOp := [⟨0, (some 10), none, (.q (.mov (.t 5))), []⟩, ⟨1, (some 11), none, (.q (.bin .lss (.t 10) (.k (.int .i64 0)))), []⟩]
@[simp] def b_Wlays_6 (_ : Unit) : EB := reg0 (hid l_Wlays_5) 2
@[simp] def l_Wlays_7 (_ : Unit) : List EOp := [⟨0, (some 4), none, (.q (.mov (.k (.int .i64 (-1))))), []⟩]
@[simp] def b_Wlays_8 (_ : Unit) : EB := reg0 (hid l_Wlays_7) 1
@[simp] def b_Wlays_9 (_ : Unit) : EB := .seq (hid b_Wlays_8) .ret
@[simp] def b_Wlays_10 (_ : Unit) : EB := .cond (.t 11) (hid b_Wlays_9) .skip
@[simp] def b_Wlays_11 (_ : Unit) : EB := .seq (hid b_Wlays_6) (hid b_Wlays_10)
@[simp] def l_Wlays_13 (_ : Unit) : List EOp := [⟨6, (some 4), none, (.q (.mov (.t 17))), []⟩]
@[simp] def l_Wlays_12 (_ : Unit) : List EOp := ⟨0, (some 12), none, (.q (.fad 3 (.t 2))), []⟩ :: ⟨1, (some 13), none, (.q (.ldc (.t 12))), []⟩ :: ⟨2, (some 14), none, (.q (.mov (.t 5))), []⟩ :: ⟨3, (some 15), none, (.q (.isl 36 (.t 13) (.t 14))), []⟩ :: ⟨4, (some 16), none, (.q (.fad 1 (.t 15))), []⟩ :: ⟨5, (some 17), none, (.q (.ldc (.t 16))), []⟩ :: hid l_Wlays_13
@[simp] def b_Wlays_14 (_ : Unit) : EB := reg0 (hid l_Wlays_12) 7
@[simp] def b_Wlays_15 (_ : Unit) : EB := .seq (hid b_Wlays_14) .ret
@[simp] def b_Wlays_16 (_ : Unit) : EB := .seq (hid b_Wlays_11) (hid b_Wlays_15)
@[simp] def b_Wlays_17 (_ : Unit) : EB := .seq (hid b_Wlays_4) (hid b_Wlays_16)
@[simp] def b_Wlays_18 (_ : Unit) : EB := .seq (hid b_Wlays_2) (hid b_Wlays_17)
def c_Wlays : EB × List QOp × Nat := ((hid b_Wlays_18), [(.mov (.t 4))], 18)
theorem k_Wlays : cfun Tryz.prog 26 = some c_Wlays := by kernel_rfl

@[simp] def l_lays1_1 (_ : Unit) : List EOp := [⟨0, (some 2), none, (.q (.box 45 (.t 0))), []⟩, ⟨1, (some 3), none, (.q (.mov (.k (.bool false)))), []⟩]
@[simp] def b_lays1_2 (_ : Unit) : EB := reg0 (hid l_lays1_1) 2
@[simp] def l_lays1_3 (_ : Unit) : List EOp := [⟨0, (some 4), none, (.q (.fad 0 (.t 2))), []⟩, ⟨1, (some 5), none, (.q (.ldc (.t 4))), []⟩, ⟨2, (some 6), none, (.q (.ldc (.t 1))), []⟩, ⟨3, (some 7), none, (.q (.bin .eql (.t 5) (.t 6))), []⟩, ⟨4, (some 3), none, (.q (.mov (.t 7))), []⟩]
@[simp] def b_lays1_4 (_ : Unit) : EB := reg0 (hid l_lays1_3) 5
@[simp] def b_lays1_5 (_ : Unit) : EB := .seq (hid b_lays1_4) .ret
@[simp] def b_lays1_6 (_ : Unit) : EB := .seq (hid b_lays1_2) (hid b_lays1_5)
def c_lays1 : EB × List QOp × Nat := ((hid b_lays1_6), [(.mov (.t 3))], 8)
theorem k_lays1 : cfun Tryz.prog 64 = some c_lays1 := by kernel_rfl

@[simp] def l_IdxP_1 (_ : Unit) : List EOp := [⟨0, (some 4), none, (.q (.mov (.k (.int .i64 0)))), []⟩]
@[simp] def b_IdxP_2 (_ : Unit) : EB := reg0 (hid l_IdxP_1) 1
@[simp] def l_IdxP_3 (_ : Unit) : List EOp := [⟨0, (some 6), none, (.q (.mov (.t 0))), []⟩, ⟨1, (some 7), none, (.q (.len (.t 6))), []⟩, ⟨2, (some 8), none, (.q (.mov (.k (.int .i64 0)))), []⟩]
@[simp] def b_IdxP_4 (_ : Unit) : EB := reg0 (hid l_IdxP_3) 3
@[simp] def l_IdxP_5 (_ : Unit) : List EOp := [⟨0, (some 9), none, (.q (.bin .lss (.t 8) (.t 7))), []⟩]
@[simp] def b_IdxP_6 (_ : Unit) : EB := reg0 (hid l_IdxP_5) 1
@[simp] def b_IdxP_7 (_ : Unit) : EB := .cond (.t 9) .skip (.exit 0)
@[simp] def l_IdxP_8 (_ : Unit) : List EOp := [⟨0, (some 10), none, (.q (.mov (.t 8))), []⟩, ⟨1, (some 5), none, (.q (.mov (.t 10))), []⟩]
@[simp] def b_IdxP_9 (_ : Unit) : EB := reg0 (hid l_IdxP_8) 2
@[simp] def l_IdxP_10 (_ : Unit) : List EOp := [⟨0, (some 11), none, (.q (.mov (.t 1))), []⟩, ⟨1, (some 12), none, (.q (.mov (.t 0))), []⟩, ⟨2, (some 13), none, (.q (.mov (.t 5))), []⟩, ⟨3, (some 14), none, (.q (.isl 36 (.t 12) (.t 13))), []⟩, ⟨4, (some 15), none, (.q (.lda 36 (.t 14))), []⟩, ⟨5, (some 16), none, (.clo (.t 11) [(.t 15)]), []⟩]
@[simp] def b_IdxP_11 (_ : Unit) : EB := reg0 (hid l_IdxP_10) 6
@[simp] def l_IdxP_12 (_ : Unit) : List EOp := [⟨0, (some 17), none, (.q (.mov (.t 5))), []⟩, ⟨1, (some 4), none, (.q (.mov (.t 17))), []⟩]
@[simp] def b_IdxP_13 (_ : Unit) : EB := reg0 (hid l_IdxP_12) 2
@[simp] def b_IdxP_14 (_ : Unit) : EB := .seq (hid b_IdxP_13) .ret
@[simp] def b_IdxP_15 (_ : Unit) : EB := .cond (.t 16) (hid b_IdxP_14) .skip
@[simp] def b_IdxP_16 (_ : Unit) : EB := .seq (hid b_IdxP_11) (hid b_IdxP_15)
@[simp] def b_IdxP_17 (_ : Unit) : EB := .seq (hid b_IdxP_9) (hid b_IdxP_16)
@[simp] def b_IdxP_18 (_ : Unit) : EB := .block 1 (hid b_IdxP_17)
@[simp] def l_IdxP_19 (_ : Unit) : List EOp := [⟨0, (some 18), none, (.q (.bin .add (.t 8) (.k (.int .i64 1)))), []⟩, ⟨1, (some 8), none, (.q (.mov (.t 18))), []⟩]
@[simp] def b_IdxP_20 (_ : Unit) : EB := reg0 (hid l_IdxP_19) 2
@[simp] def b_IdxP_21 (_ : Unit) : EB := .seq (hid b_IdxP_18) (hid b_IdxP_20)
@[simp] def b_IdxP_22 (_ : Unit) : EB := .seq (hid b_IdxP_7) (hid b_IdxP_21)
@[simp] def b_IdxP_23 (_ : Unit) : EB := .seq (hid b_IdxP_6) (hid b_IdxP_22)
@[simp] def b_IdxP_24 (_ : Unit) : EB := .loop (hid b_IdxP_23)
@[simp] def b_IdxP_25 (_ : Unit) : EB := .block 0 (hid b_IdxP_24)
@[simp] def b_IdxP_26 (_ : Unit) : EB := .seq (hid b_IdxP_4) (hid b_IdxP_25)
@[simp] def l_IdxP_27 (_ : Unit) : List EOp := [⟨0, (some 4), none, (.q (.mov (.k (.int .i64 (-1))))), []⟩]
@[simp] def b_IdxP_28 (_ : Unit) : EB := reg0 (hid l_IdxP_27) 1
@[simp] def b_IdxP_29 (_ : Unit) : EB := .seq (hid b_IdxP_28) .ret
@[simp] def b_IdxP_30 (_ : Unit) : EB := .seq (hid b_IdxP_26) (hid b_IdxP_29)
@[simp] def b_IdxP_31 (_ : Unit) : EB := .seq (hid b_IdxP_2) (hid b_IdxP_30)
def c_IdxP : EB × List QOp × Nat := ((hid b_IdxP_31), [(.mov (.t 4))], 19)
theorem k_IdxP : cfun Tryz.prog 63 = some c_IdxP := by kernel_rfl


/-- The first payment of a number. -/
def layI : List Pay → Int → Option Pay
  | [], _ => none
  | p :: r, x => if p.id = x then some p else layI r x
/-- A state behind what a side does; the error. -/
def doS (s : Sta) (side : Int) (o : WOp) : Sta × Nat :=
  if ¬ (mayS s = true ∧ (side = 0 ∨ side = 1) ∧ 1 ≤ o.kind ∧ o.kind ≤ 4) then (zSta, 1)
  else if o.kind = 1 then moveS s side o.am
  else if o.kind = 2 then if o.pay.fr ≠ side then (zSta, 33) else addP s o.pay
  else match layI s.pays o.id with
  | none => (zSta, 8)
  | some p => if p.fr = side then (zSta, 33) else if o.kind = 3 then setS s o.id o.sec else falS s o.id
theorem layI_mem : ∀ {l : List Pay} {x : Int} {p : Pay}, layI l x = some p → p ∈ l ∧ p.id = x
  | [], x, p, h => by simp [layI] at h
  | a :: r, x, p, h => by
    unfold layI at h
    split at h
    · rename_i e
      obtain rfl := Option.some.inj h
      exact ⟨List.mem_cons_self, e⟩
    · obtain ⟨h1, h2⟩ := layI_mem h
      exact ⟨List.mem_cons_of_mem _ h1, h2⟩
theorem layI_at : ∀ {l : List Pay} {x : Int} {i : Nat} {p : Pay}, (∀ (k : Nat) (q : Pay), k < i → l[k]? = some q → q.id ≠ x) → l[i]? = some p → p.id = x → layI l x = some p
  | [], x, i, p, h, hi, e => by simp at hi
  | a :: r, x, 0, p, h, hi, e => by
    simp only [List.getElem?_cons_zero, Option.some.injEq] at hi
    subst hi
    simp [layI, e]
  | a :: r, x, i + 1, p, h, hi, e => by
    have h0 := h 0 a (Nat.succ_pos i) (by simp)
    unfold layI
    rw [if_neg h0]
    exact layI_at (i := i) (fun k q hk hq => h (k + 1) q (by omega) (by simpa using hq)) (by simpa using hi) e
theorem layI_no : ∀ {l : List Pay} {x : Int}, (∀ (k : Nat) (q : Pay), l[k]? = some q → q.id ≠ x) → layI l x = none
  | [], x, h => rfl
  | a :: r, x, h => by
    unfold layI
    rw [if_neg (h 0 a (by simp))]
    exact layI_no fun k q hq => h (k + 1) q (by simpa using hq)

/-- A number in a box. -/
def BX (x : Int) : EO := .box 3 [.fz (.lit (.int .i64 x))]
theorem lays1_ok (p : Pay) (x : Int) (hp : p.ok) : ECalls Tryz.prog 64 [.v (.agg (payC p)), .v (.c (.ptr 0 0))] [BX x] fun y H' => H' = [some (BX x)] ∧ y = .lit (.bool (decide (p.id = x))) := by
  have hpt := payC_take hp.2.2.2.2
  refine ecalls k_lays1 ?_
  simp [c_lays1, BX, hpt, pc0, pe0]
  exact fin [] (by decide) rfl rfl (by simp [objsOut, show List.range 1 = [0] from rfl]) ⟨rfl, rfl⟩
theorem lays1_body : bodyOK Tryz.prog 64 = true := by kernel_rfl

set_option maxHeartbeats 2000000 in
theorem IdxP_ok (l : List Pay) (x : Int) (hl : ∀ p ∈ l, p.ok) (hn : l.length ≤ 100000000) : ECalls Tryz.prog 63 [PL l, .v (.c (.clo 64 [(0, 0)]))] [BX x] fun y H' => H' = [some (BX x)] ∧ ((layI l x = none ∧ y = I .i64 (-1)) ∨ ∃ (i : Nat) (p : Pay), l[i]? = some p ∧ layI l x = some p ∧ y = I .i64 i) := by
  refine ecalls k_IdxP ?_
  simp [c_IdxP, PL, I]
  refine eloop (α := Nat) (fun i => i ≤ l.length ∧ ∀ (k : Nat) (q : Pay), k < i → l[k]? = some q → q.id ≠ x) (fun i => l.length - i)
    (fun i => [PL l, .v (.c (.clo 64 [(0, 0)])), .any, .any, .any, .any, .any, I .i64 l.length, I .i64 i, .any, .any, .any, .any, .any, .any, .any, .any, .any, .any]) (fun _ => [some (BX x)]) 0 [0]
    ⟨Nat.zero_le _, fun k q h => by omega⟩ (by simp [I, PL]) (by simp [BX]) (by simp [BX]) (by simp) (by simp) ?_
  rintro i ⟨hi, hlo⟩
  simp [I, PL, BX]
  refine alt (fun hlt => ?_) (fun hlt => ?_)
  · have hln : i < l.length := by omega
    obtain ⟨p, hc⟩ : ∃ p, l[i]? = some p := ⟨l[i], by simp [hln]⟩
    have hge : (payv l)[i]'(by simp [hln]) = payF p := by
      have e := payv_get hc
      rw [List.getElem?_eq_getElem (by simp [hln])] at e
      exact Option.some.inj e
    have w4 : IntKind.i64.wrap ((i : Int) + 1) = ((i + 1 : Nat) : Int) := wrap_i64 (by omega) (by omega)
    have hpo := hl p (List.mem_of_getElem? hc)
    have hfl := payF_len hpo.2.2.2.2
    have hpt := payC_take hpo.2.2.2.2
    have hpl := payC_len hpo.2.2.2.2
    simp [hln, hge, hfl, payF_fz, hpt, hpl]
    refine ⟨lays1_body, ?_⟩
    refine callH [0] (lays1_ok p x hpo) (by simp) (by simp [BX]) (by simp) (by simp) (by simp) ?_
    rintro y H' ⟨rfl, rfl⟩
    refine ⟨.inl (by simp [-List.flatMap_eq_nil_iff, I]), by simp, ?_⟩
    simp [BX]
    refine alt (fun he => ?_) (fun he => ?_)
    · simp
      exact fin [] (by decide) rfl rfl (by simp [objsOut, show List.range 1 = [0] from rfl]) ⟨rfl, .inr ⟨i, p, hc, layI_at hlo hc he, rfl⟩⟩
    · simp [w4, -Int.natCast_add]
      refine round (i + 1) [0] ⟨by omega, ?_⟩ (by omega) (by simp) (by simp) (by simp) (by simp) (by simp)
      intro k q hk hq
      rcases Nat.lt_or_ge k i with h1 | h1
      · exact hlo k q h1 hq
      · obtain rfl : k = i := by omega
        rw [hc] at hq
        obtain rfl := Option.some.inj hq
        exact he
  · simp
    exact fin [] (by decide) rfl rfl (by simp [objsOut, show List.range 1 = [0] from rfl]) ⟨rfl, .inl ⟨layI_no fun k q hq => hlo k q (by have := lt_len hq; omega) hq, rfl⟩⟩

theorem lays_ok (s : Sta) (x : Int) (hs : s.ok) : ECalls Tryz.prog 26 [SV s, I .i64 x] [] fun y H' => H' = [] ∧ y = I .i64 (match layI s.pays x with | none => -1 | some p => p.fr) := by
  obtain ⟨ok1, ok2, ok3, ok4, ok5, ok6, ok7⟩ := id hs
  refine ecalls k_Wlays ?_
  simp [c_Wlays, SV, staC, I]
  refine callH [16] (IdxP_ok s.pays x ok4 ok6) (by simp [PL]) (by simp [BX]) (by simp) (by simp) (by simp) ?_
  rintro y H' ⟨rfl, h⟩
  rcases h with ⟨h, rfl⟩ | ⟨i, p, hc, h, rfl⟩
  · refine ⟨.inl (by simp [I]), by simp, ?_⟩
    rw [h]
    simp [I]
    exact fin [] (by decide) rfl rfl rfl ⟨rfl, rfl⟩
  · refine ⟨.inl (by simp [I]), by simp, ?_⟩
    have hln := lt_len hc
    have hge : (payv s.pays)[i]'(by simp [hln]) = payF p := by
      have e := payv_get hc
      rw [List.getElem?_eq_getElem (by simp [hln])] at e
      exact Option.some.inj e
    have n0 : ¬ ((i : Int) < 0) := by omega
    rw [h]
    simp [I, n0, hln, hge, payF]
    exact fin [] (by decide) rfl rfl rfl ⟨rfl, rfl⟩

end Go.Proofs.YtpilpjameifcfaaGreatDoor

namespace Go.Proofs.YtpilpjameifcfaaGreatDoor
open Go Go.EW
set_option linter.unusedSimpArgs false
set_option linter.unusedVariables false

@[simp] def l_WDo_1 (_ : Unit) : List EOp := [⟨0, (some 3), none, (.q (.box 39 (.t 0))), []⟩, ⟨1, (some 5), none, (.q (.box 47 (.t 2))), []⟩, ⟨2, (some 6), none, (.q (.alloc 39 [(.int .i64 0), (.int .i64 0), (.int .i64 0), (.slice none 0 0), (.slice none 0 0)])), []⟩, ⟨3, (some 7), none, (.q (.mov (.k .nilIface))), []⟩]
@[simp] def b_WDo_2 (_ : Unit) : EB := reg0 (hid l_WDo_1) 4
@[simp] def l_WDo_6 (_ : Unit) : List EOp := [⟨18, (some 26), (some (24, false)), (.q (.ldc (.t 25))), []⟩, ⟨19, (some 27), (some (24, false)), (.q (.bin .gtr (.t 26) (.k (.int .i64 4)))), []⟩, ⟨20, (some 28), none, (.q (.pick (.t 24) (.k (.bool true)) (.t 27))), []⟩]
@[simp] def l_WDo_5 (_ : Unit) : List EOp := ⟨12, (some 20), (some (19, false)), (.q (.fad 0 (.t 5))), []⟩ :: ⟨13, (some 21), (some (19, false)), (.q (.ldc (.t 20))), []⟩ :: ⟨14, (some 22), (some (19, false)), (.q (.bin .lss (.t 21) (.k (.int .i64 1)))), []⟩ :: ⟨15, (some 23), none, (.q (.pick (.t 19) (.k (.bool true)) (.t 22))), []⟩ :: ⟨16, (some 24), none, (.q (.mov (.t 23))), []⟩ :: ⟨17, (some 25), (some (24, false)), (.q (.fad 0 (.t 5))), []⟩ :: hid l_WDo_6
@[simp] def l_WDo_4 (_ : Unit) : List EOp := ⟨6, (some 14), none, (.q (.pick (.t 11) (.k (.bool true)) (.t 13))), []⟩ :: ⟨7, (some 15), none, (.q (.mov (.t 14))), []⟩ :: ⟨8, (some 16), (some (15, false)), (.q (.mov (.t 1))), []⟩ :: ⟨9, (some 17), (some (15, false)), (.q (.bin .gtr (.t 16) (.k (.int .i64 1)))), []⟩ :: ⟨10, (some 18), none, (.q (.pick (.t 15) (.k (.bool true)) (.t 17))), []⟩ :: ⟨11, (some 19), none, (.q (.mov (.t 18))), []⟩ :: hid l_WDo_5
@[simp] def l_WDo_3 (_ : Unit) : List EOp := ⟨0, (some 8), none, (.q (.lda 5 (.t 3))), []⟩ :: ⟨1, (some 9), none, (.call 23 [(.t 8)]), []⟩ :: ⟨2, (some 10), none, (.q (.eqi true (.t 9))), []⟩ :: ⟨3, (some 11), none, (.q (.mov (.t 10))), []⟩ :: ⟨4, (some 12), (some (11, false)), (.q (.mov (.t 1))), []⟩ :: ⟨5, (some 13), (some (11, false)), (.q (.bin .lss (.t 12) (.k (.int .i64 0)))), []⟩ :: hid l_WDo_4
@[simp] def b_WDo_7 (_ : Unit) : EB := reg0 (hid l_WDo_3) 21
@[simp] def l_WDo_8 (_ : Unit) : List EOp := [⟨0, (some 29), none, (.q (.build [(.int .i64 0), (.int .i64 0), (.int .i64 0), (.slice none 0 0), (.slice none 0 0)] [])), []⟩, ⟨1, (some 30), none, (.q (.mki 77 (.k (.int .i64 1)))), []⟩, ⟨2, none, none, (.fz (.sto 5 (.t 6) (.t 29))), []⟩, ⟨3, (some 7), none, (.q (.mov (.t 30))), []⟩]
@[simp] def b_WDo_9 (_ : Unit) : EB := reg0 (hid l_WDo_8) 4
@[simp] def b_WDo_10 (_ : Unit) : EB := .seq (hid b_WDo_9) .ret
@[simp] def b_WDo_11 (_ : Unit) : EB := .cond (.t 28) (hid b_WDo_10) .skip
@[simp] def b_WDo_12 (_ : Unit) : EB := .seq (hid b_WDo_7) (hid b_WDo_11)
@[simp] def l_WDo_13 (_ : Unit) : List EOp := [⟨0, (some 31), none, (.q (.fad 0 (.t 5))), []⟩, ⟨1, (some 32), none, (.q (.ldc (.t 31))), []⟩]
@[simp] def b_WDo_14 (_ : Unit) : EB := reg0 (hid l_WDo_13) 2
@[simp] def l_WDo_15 (_ : Unit) : List EOp := [⟨0, (some 34), none, (.q (.bin .eql (.t 32) (.k (.int .i64 1)))), []⟩, ⟨1, (some 33), none, (.q (.mov (.t 34))), []⟩]
@[simp] def b_WDo_16 (_ : Unit) : EB := reg0 (hid l_WDo_15) 2
@[simp] def l_WDo_18 (_ : Unit) : List EOp := [⟨6, (some 41), none, (.q (.ext 1 (.t 39))), []⟩, ⟨7, none, none, (.fz (.sto 5 (.t 6) (.t 40))), []⟩, ⟨8, (some 7), none, (.q (.mov (.t 41))), []⟩]
@[simp] def l_WDo_17 (_ : Unit) : List EOp := ⟨0, (some 35), none, (.q (.lda 5 (.t 3))), []⟩ :: ⟨1, (some 36), none, (.q (.mov (.t 1))), []⟩ :: ⟨2, (some 37), none, (.q (.fad 1 (.t 5))), []⟩ :: ⟨3, (some 38), none, (.q (.ldc (.t 37))), []⟩ :: ⟨4, (some 39), none, (.call 24 [(.t 35), (.t 36), (.t 38)]), []⟩ :: ⟨5, (some 40), none, (.q (.ext 0 (.t 39))), []⟩ :: hid l_WDo_18
@[simp] def b_WDo_19 (_ : Unit) : EB := reg0 (hid l_WDo_17) 9
@[simp] def b_WDo_20 (_ : Unit) : EB := .seq (hid b_WDo_19) .ret
@[simp] def l_WDo_21 (_ : Unit) : List EOp := [⟨0, (some 43), none, (.q (.bin .eql (.t 32) (.k (.int .i64 2)))), []⟩, ⟨1, (some 42), none, (.q (.mov (.t 43))), []⟩]
@[simp] def b_WDo_22 (_ : Unit) : EB := reg0 (hid l_WDo_21) 2
@[simp] def l_WDo_23 (_ : Unit) : List EOp := [⟨0, (some 44), none, (.q (.fad 3 (.t 5))), []⟩, ⟨1, (some 45), none, (.q (.fad 1 (.t 44))), []⟩, ⟨2, (some 46), none, (.q (.ldc (.t 45))), []⟩, ⟨3, (some 47), none, (.q (.mov (.t 1))), []⟩, ⟨4, (some 48), none, (.q (.bin .neq (.t 46) (.t 47))), []⟩]
@[simp] def b_WDo_24 (_ : Unit) : EB := reg0 (hid l_WDo_23) 5
@[simp] def l_WDo_25 (_ : Unit) : List EOp := [⟨0, (some 49), none, (.q (.build [(.int .i64 0), (.int .i64 0), (.int .i64 0), (.slice none 0 0), (.slice none 0 0)] [])), []⟩, ⟨1, (some 50), none, (.q (.mki 77 (.k (.int .i64 33)))), []⟩, ⟨2, none, none, (.fz (.sto 5 (.t 6) (.t 49))), []⟩, ⟨3, (some 7), none, (.q (.mov (.t 50))), []⟩]
@[simp] def b_WDo_26 (_ : Unit) : EB := reg0 (hid l_WDo_25) 4
@[simp] def b_WDo_27 (_ : Unit) : EB := .seq (hid b_WDo_26) .ret
@[simp] def b_WDo_28 (_ : Unit) : EB := .cond (.t 48) (hid b_WDo_27) .skip
@[simp] def b_WDo_29 (_ : Unit) : EB := .seq (hid b_WDo_24) (hid b_WDo_28)
@[simp] def l_WDo_31 (_ : Unit) : List EOp := [⟨6, none, none, (.fz (.sto 5 (.t 6) (.t 55))), []⟩, ⟨7, (some 7), none, (.q (.mov (.t 56))), []⟩]
@[simp] def l_WDo_30 (_ : Unit) : List EOp := ⟨0, (some 51), none, (.q (.lda 5 (.t 3))), []⟩ :: ⟨1, (some 52), none, (.q (.fad 3 (.t 5))), []⟩ :: ⟨2, (some 53), none, (.q (.lda 36 (.t 52))), []⟩ :: ⟨3, (some 54), none, (.call 25 [(.t 51), (.t 53)]), []⟩ :: ⟨4, (some 55), none, (.q (.ext 0 (.t 54))), []⟩ :: ⟨5, (some 56), none, (.q (.ext 1 (.t 54))), []⟩ :: hid l_WDo_31
@[simp] def b_WDo_32 (_ : Unit) : EB := reg0 (hid l_WDo_30) 8
@[simp] def b_WDo_33 (_ : Unit) : EB := .seq (hid b_WDo_32) .ret
@[simp] def b_WDo_34 (_ : Unit) : EB := .seq (hid b_WDo_29) (hid b_WDo_33)
@[simp] def b_WDo_35 (_ : Unit) : EB := .cond (.t 42) (hid b_WDo_34) .skip
@[simp] def b_WDo_36 (_ : Unit) : EB := .seq (hid b_WDo_22) (hid b_WDo_35)
@[simp] def b_WDo_37 (_ : Unit) : EB := .cond (.t 33) (hid b_WDo_20) (hid b_WDo_36)
@[simp] def b_WDo_38 (_ : Unit) : EB := .seq (hid b_WDo_16) (hid b_WDo_37)
@[simp] def b_WDo_39 (_ : Unit) : EB := .block 0 (hid b_WDo_38)
@[simp] def b_WDo_40 (_ : Unit) : EB := .seq (hid b_WDo_14) (hid b_WDo_39)
@[simp] def l_WDo_41 (_ : Unit) : List EOp := [⟨0, (some 57), none, (.q (.lda 5 (.t 3))), []⟩, ⟨1, (some 58), none, (.q (.fad 2 (.t 5))), []⟩, ⟨2, (some 59), none, (.q (.ldc (.t 58))), []⟩, ⟨3, (some 60), none, (.call 26 [(.t 57), (.t 59)]), []⟩]
@[simp] def b_WDo_42 (_ : Unit) : EB := reg0 (hid l_WDo_41) 4
@[simp] def l_WDo_43 (_ : Unit) : List EOp := [⟨0, (some 62), none, (.q (.bin .eql (.t 60) (.k (.int .i64 (-1))))), []⟩, ⟨1, (some 61), none, (.q (.mov (.t 62))), []⟩]
@[simp] def b_WDo_44 (_ : Unit) : EB := reg0 (hid l_WDo_43) 2
@[simp] def l_WDo_45 (_ : Unit) : List EOp := [⟨0, (some 63), none, (.q (.build [(.int .i64 0), (.int .i64 0), (.int .i64 0), (.slice none 0 0), (.slice none 0 0)] [])), []⟩, ⟨1, (some 64), none, (.q (.mki 77 (.k (.int .i64 8)))), []⟩, ⟨2, none, none, (.fz (.sto 5 (.t 6) (.t 63))), []⟩, ⟨3, (some 7), none, (.q (.mov (.t 64))), []⟩]
@[simp] def b_WDo_46 (_ : Unit) : EB := reg0 (hid l_WDo_45) 4
@[simp] def b_WDo_47 (_ : Unit) : EB := .seq (hid b_WDo_46) .ret
@[simp] def l_WDo_48 (_ : Unit) : List EOp := [⟨0, (some 66), none, (.q (.mov (.t 1))), []⟩, ⟨1, (some 67), none, (.q (.bin .eql (.t 60) (.t 66))), []⟩, ⟨2, (some 65), none, (.q (.mov (.t 67))), []⟩]
@[simp] def b_WDo_49 (_ : Unit) : EB := reg0 (hid l_WDo_48) 3
@[simp] def l_WDo_50 (_ : Unit) : List EOp := [⟨0, (some 68), none, (.q (.build [(.int .i64 0), (.int .i64 0), (.int .i64 0), (.slice none 0 0), (.slice none 0 0)] [])), []⟩, ⟨1, (some 69), none, (.q (.mki 77 (.k (.int .i64 33)))), []⟩, ⟨2, none, none, (.fz (.sto 5 (.t 6) (.t 68))), []⟩, ⟨3, (some 7), none, (.q (.mov (.t 69))), []⟩]
@[simp] def b_WDo_51 (_ : Unit) : EB := reg0 (hid l_WDo_50) 4
@[simp] def b_WDo_52 (_ : Unit) : EB := .seq (hid b_WDo_51) .ret
@[simp] def b_WDo_53 (_ : Unit) : EB := .cond (.t 65) (hid b_WDo_52) .skip
@[simp] def b_WDo_54 (_ : Unit) : EB := .seq (hid b_WDo_49) (hid b_WDo_53)
@[simp] def b_WDo_55 (_ : Unit) : EB := .cond (.t 61) (hid b_WDo_47) (hid b_WDo_54)
@[simp] def b_WDo_56 (_ : Unit) : EB := .seq (hid b_WDo_44) (hid b_WDo_55)
@[simp] def b_WDo_57 (_ : Unit) : EB := .block 1 (hid b_WDo_56)
@[simp] def b_WDo_58 (_ : Unit) : EB := .seq (hid b_WDo_42) (hid b_WDo_57)
@[simp] def l_WDo_59 (_ : Unit) : List EOp := [⟨0, (some 70), none, (.q (.fad 0 (.t 5))), []⟩, ⟨1, (some 71), none, (.q (.ldc (.t 70))), []⟩, ⟨2, (some 72), none, (.q (.bin .eql (.t 71) (.k (.int .i64 3)))), []⟩]
@[simp] def b_WDo_60 (_ : Unit) : EB := reg0 (hid l_WDo_59) 3
@[simp] def l_WDo_62 (_ : Unit) : List EOp := [⟨6, (some 79), none, (.q (.ext 0 (.t 78))), []⟩, ⟨7, (some 80), none, (.q (.ext 1 (.t 78))), []⟩, ⟨8, none, none, (.fz (.sto 5 (.t 6) (.t 79))), []⟩, ⟨9, (some 7), none, (.q (.mov (.t 80))), []⟩]
@[simp] def l_WDo_61 (_ : Unit) : List EOp := ⟨0, (some 73), none, (.q (.lda 5 (.t 3))), []⟩ :: ⟨1, (some 74), none, (.q (.fad 2 (.t 5))), []⟩ :: ⟨2, (some 75), none, (.q (.ldc (.t 74))), []⟩ :: ⟨3, (some 76), none, (.q (.fad 39 (.t 5))), []⟩ :: ⟨4, (some 77), none, (.q (.ldc (.t 76))), []⟩ :: ⟨5, (some 78), none, (.call 27 [(.t 73), (.t 75), (.t 77)]), []⟩ :: hid l_WDo_62
@[simp] def b_WDo_63 (_ : Unit) : EB := reg0 (hid l_WDo_61) 10
@[simp] def b_WDo_64 (_ : Unit) : EB := .seq (hid b_WDo_63) .ret
@[simp] def b_WDo_65 (_ : Unit) : EB := .cond (.t 72) (hid b_WDo_64) .skip
@[simp] def b_WDo_66 (_ : Unit) : EB := .seq (hid b_WDo_60) (hid b_WDo_65)
@[simp] def l_WDo_68 (_ : Unit) : List EOp := [⟨6, none, none, (.fz (.sto 5 (.t 6) (.t 85))), []⟩, ⟨7, (some 7), none, (.q (.mov (.t 86))), []⟩]
@[simp] def l_WDo_67 (_ : Unit) : List EOp := ⟨0, (some 81), none, (.q (.lda 5 (.t 3))), []⟩ :: ⟨1, (some 82), none, (.q (.fad 2 (.t 5))), []⟩ :: ⟨2, (some 83), none, (.q (.ldc (.t 82))), []⟩ :: ⟨3, (some 84), none, (.call 28 [(.t 81), (.t 83)]), []⟩ :: ⟨4, (some 85), none, (.q (.ext 0 (.t 84))), []⟩ :: ⟨5, (some 86), none, (.q (.ext 1 (.t 84))), []⟩ :: hid l_WDo_68
@[simp] def b_WDo_69 (_ : Unit) : EB := reg0 (hid l_WDo_67) 8
@[simp] def b_WDo_70 (_ : Unit) : EB := .seq (hid b_WDo_69) .ret
@[simp] def b_WDo_71 (_ : Unit) : EB := .seq (hid b_WDo_66) (hid b_WDo_70)
@[simp] def b_WDo_72 (_ : Unit) : EB := .seq (hid b_WDo_58) (hid b_WDo_71)
@[simp] def b_WDo_73 (_ : Unit) : EB := .seq (hid b_WDo_40) (hid b_WDo_72)
@[simp] def b_WDo_74 (_ : Unit) : EB := .seq (hid b_WDo_12) (hid b_WDo_73)
@[simp] def b_WDo_75 (_ : Unit) : EB := .seq (hid b_WDo_2) (hid b_WDo_74)
def c_WDo : EB × List QOp × Nat := ((hid b_WDo_75), [(.lda 5 (.t 6)), (.mov (.t 7))], 87)
theorem k_WDo : cfun Tryz.prog 7 = some c_WDo := by kernel_rfl

@[simp] def l_sure_1 (_ : Unit) : List EOp := [⟨0, (some 0), none, (.q (.mov (.k (.bool false)))), []⟩]
@[simp] def b_sure_2 (_ : Unit) : EB := reg0 (hid l_sure_1) 1
@[simp] def l_sure_4 (_ : Unit) : List EOp := [⟨6, (some 9), none, (.q (.ext 1 (.t 3))), []⟩, ⟨7, (some 1), none, (.q (.alloc 39 [(.int .i64 0), (.int .i64 0), (.int .i64 0), (.slice none 0 0), (.slice none 0 0)])), []⟩, ⟨8, none, none, (.fz (.sto 5 (.t 1) (.t 8))), []⟩, ⟨9, (some 2), none, (.q (.mov (.t 9))), []⟩]
@[simp] def l_sure_3 (_ : Unit) : List EOp := ⟨0, (some 4), none, (.q (.build [(.int .i64 0), (.int .i64 0)] [(0, 1, (.k (.int .i64 50))), (1, 1, (.k (.int .i64 50)))])), []⟩ :: ⟨1, (some 5), none, (.q (.build [(.int .i64 0), (.int .i64 0), (.int .i64 0), (.slice none 0 0), (.slice none 0 0)] [(1, 2, (.t 4))])), []⟩ :: ⟨2, (some 6), none, (.q (.build (([(.int .i64 0), (.int .i64 0), (.int .i64 0), (.int .i64 0), (.int .i64 0), (.int .i64 0), (.int .i64 0)] : List Value) ++ zU8 ++ [(.slice none 0 0)]) [(0, 1, (.k (.int .i64 1))), (1, 1, (.k (.int .i64 20)))])), []⟩ :: ⟨3, (some 7), none, (.call 7 [(.t 5), (.k (.int .i64 1)), (.t 6)]), []⟩ :: ⟨4, (some 3), none, (.q (.mov (.t 7))), []⟩ :: ⟨5, (some 8), none, (.q (.ext 0 (.t 3))), []⟩ :: hid l_sure_4
@[simp] def b_sure_5 (_ : Unit) : EB := reg0 (hid l_sure_3) 10
@[simp] def l_sure_7 (_ : Unit) : List EOp := [⟨6, (some 16), (some (12, true)), (.q (.eqa false 2 .i64 (.t 14) (.t 15))), []⟩, ⟨7, (some 17), none, (.q (.pick (.t 12) (.t 16) (.k (.bool false)))), []⟩, ⟨8, (some 0), none, (.q (.mov (.t 17))), []⟩]
@[simp] def l_sure_6 (_ : Unit) : List EOp := ⟨0, (some 10), none, (.q (.mov (.t 2))), []⟩ :: ⟨1, (some 11), none, (.q (.eqi false (.t 10))), []⟩ :: ⟨2, (some 12), none, (.q (.mov (.t 11))), []⟩ :: ⟨3, (some 13), (some (12, true)), (.q (.fad 1 (.t 1))), []⟩ :: ⟨4, (some 14), (some (12, true)), (.q (.lda 2 (.t 13))), []⟩ :: ⟨5, (some 15), (some (12, true)), (.q (.build [(.int .i64 0), (.int .i64 0)] [(0, 1, (.k (.int .i64 70))), (1, 1, (.k (.int .i64 30)))])), []⟩ :: hid l_sure_7
@[simp] def b_sure_8 (_ : Unit) : EB := reg0 (hid l_sure_6) 9
@[simp] def b_sure_9 (_ : Unit) : EB := .seq (hid b_sure_8) .ret
@[simp] def b_sure_10 (_ : Unit) : EB := .seq (hid b_sure_5) (hid b_sure_9)
@[simp] def b_sure_11 (_ : Unit) : EB := .seq (hid b_sure_2) (hid b_sure_10)
def c_sure : EB × List QOp × Nat := ((hid b_sure_11), [(.mov (.t 0))], 18)
theorem k_sure : cfun Tryz.prog 6 = some c_sure := by kernel_rfl


@[simp] theorem errV_33' : Value.iface 77 (.int .i64 33) = errV 33 := rfl
@[simp] theorem errV_8' : Value.iface 77 (.int .i64 8) = errV 8 := rfl
/-- What is done, with any way of having its secret. -/
def opE (o : WOp) (e : EC) : EV := .v (.agg (.fz (.lit (.int .i64 o.kind)) :: .fz (.lit (.int .i64 o.am)) :: .fz (.lit (.int .i64 o.id)) :: (payC o.pay ++ [e])))

set_option maxHeartbeats 4000000 in
set_option maxRecDepth 8000 in
theorem WDo_ok (s : Sta) (side : Int) (o : WOp) (hs : s.ok) (hsd : i64 side) (ho : o.ok) : ECalls Tryz.prog 7 [SV s, I .i64 side, OpV o] [] fun y H' => H' = [] ∧ y = SE (doS s side o) := by
  obtain ⟨⟨o1, o1'⟩, ⟨o2, o2'⟩, ⟨o3, o3'⟩, op, osl⟩ := id ho
  have h32 := op.2.2.2.2
  have t32 : o.pay.lock.take 32 = o.pay.lock := List.take_of_length_le (by omega)
  have hpt := payC_take h32
  have hpl := payC_len h32
  have hcl : (Go.EW.hc o.pay.lock).length = 32 := by rw [hc_len]; exact h32
  have hth : ∀ e : EC, List.take 32 (Go.EW.hc o.pay.lock ++ [e]) = Go.EW.hc o.pay.lock := fun e => by rw [List.take_append_of_le_length (by omega), List.take_of_length_le (by omega)]
  have hat : ∀ e : EC, (Go.EW.hc o.pay.lock ++ [e])[32]? = some e := fun e => by rw [List.getElem?_append_right (by omega), hcl]; rfl
  refine ecalls k_WDo ?_
  simp [c_WDo, SV, staC, I, OpV, wopC, t32, h32, tk33 h32, dr33 h32]
  refine call0 (SCheck_ok s hs) (by simp [SV, staC]) ?_
  rintro y H' ⟨rfl, rfl⟩
  refine ⟨.inl (by simp), le_ok rfl, ?_⟩
  by_cases hm : mayS s = true
  rotate_left
  · have hm' : mayS s = false := by simpa using hm
    have hd : doS s side o = (zSta, 1) := by unfold doS; rw [if_pos (fun h => hm h.1)]
    simp [hm', -errV_0]
    rw [hd]
    simp [SE, staC, zSta, -errV_0]
    refine finW _ (weak_nlB (o := 32) (k := 3) 36 rfl rfl) (finW _ (weak_nlB (o := 32) (k := 4) 3 rfl rfl) ?_)
    exact fin [] (by decide) rfl rfl rfl ⟨rfl, rfl⟩
  by_cases h0 : side < 0
  · have hd : doS s side o = (zSta, 1) := by unfold doS; rw [if_pos (fun h => by omega)]
    simp [hm, h0, -errV_0]
    rw [hd]
    simp [SE, staC, zSta, -errV_0]
    refine finW _ (weak_nlB (o := 32) (k := 3) 36 rfl rfl) (finW _ (weak_nlB (o := 32) (k := 4) 3 rfl rfl) ?_)
    exact fin [] (by decide) rfl rfl rfl ⟨rfl, rfl⟩
  by_cases h1 : 1 < side
  · have hd : doS s side o = (zSta, 1) := by unfold doS; rw [if_pos (fun h => by omega)]
    simp [hm, h0, h1, -errV_0]
    rw [hd]
    simp [SE, staC, zSta, -errV_0]
    refine finW _ (weak_nlB (o := 32) (k := 3) 36 rfl rfl) (finW _ (weak_nlB (o := 32) (k := 4) 3 rfl rfl) ?_)
    exact fin [] (by decide) rfl rfl rfl ⟨rfl, rfl⟩
  by_cases h2 : o.kind < 1
  · have hd : doS s side o = (zSta, 1) := by unfold doS; rw [if_pos (fun h => by omega)]
    simp [hm, h0, h1, h2, -errV_0]
    rw [hd]
    simp [SE, staC, zSta, -errV_0]
    refine finW _ (weak_nlB (o := 32) (k := 3) 36 rfl rfl) (finW _ (weak_nlB (o := 32) (k := 4) 3 rfl rfl) ?_)
    exact fin [] (by decide) rfl rfl rfl ⟨rfl, rfl⟩
  by_cases h3 : 4 < o.kind
  · have hd : doS s side o = (zSta, 1) := by unfold doS; rw [if_pos (fun h => by omega)]
    simp [hm, h0, h1, h2, h3, -errV_0]
    rw [hd]
    simp [SE, staC, zSta, -errV_0]
    refine finW _ (weak_nlB (o := 32) (k := 3) 36 rfl rfl) (finW _ (weak_nlB (o := 32) (k := 4) 3 rfl rfl) ?_)
    exact fin [] (by decide) rfl rfl rfl ⟨rfl, rfl⟩
  have hg : ¬ ¬ (mayS s = true ∧ (side = 0 ∨ side = 1) ∧ 1 ≤ o.kind ∧ o.kind ≤ 4) := fun h => h ⟨hm, by omega, by omega, by omega⟩
  unfold doS
  rw [if_neg hg]
  by_cases k1 : o.kind = 1
  · rw [if_pos k1]
    simp [hm, h0, h1, h2, h3, k1, -errV_0]
    refine call0 (Move_ok s side o.am hs hsd ⟨o2, o2'⟩) (by simp [SV, staC, I, Bs]) ?_
    rintro y H' ⟨rfl, rfl⟩
    refine ⟨.inl (by simp), le_ok rfl, ?_⟩
    simp [SE, staC, -errV_0]
    exact fin [] (by decide) rfl rfl rfl ⟨rfl, rfl⟩
  rw [if_neg k1]
  by_cases k2 : o.kind = 2
  · rw [if_pos k2]
    by_cases kf : o.pay.fr = side
    · have he : (if o.pay.fr ≠ side then (zSta, 33) else addP s o.pay) = addP s o.pay := if_neg (by simpa using kf)
      rw [he]
      simp [hm, h0, h1, h2, h3, k1, k2, kf, hth, -errV_0]
      have hpa : payC o.pay = .fz (.lit (.int .i64 o.pay.id)) :: .fz (.lit (.int .i64 side)) :: .fz (.lit (.int .i64 o.pay.am)) :: .fz (.lit (.int .i64 o.pay.af)) :: Go.EW.hc o.pay.lock := by rw [← kf]; rfl
      rw [← hpa]
      refine ⟨by omega, ?_⟩
      refine call0 (SAdd_ok s o.pay hs op) (by simp [SV, staC, I, Bs]) ?_
      rintro y H' ⟨rfl, rfl⟩
      refine ⟨.inl (by simp), le_ok rfl, ?_⟩
      simp [SE, staC, -errV_0]
      exact fin [] (by decide) rfl rfl rfl ⟨rfl, rfl⟩
    · have he : (if o.pay.fr ≠ side then (zSta, 33) else addP s o.pay) = (zSta, 33) := if_pos kf
      rw [he]
      simp [hm, h0, h1, h2, h3, k1, k2, kf, -errV_0]
      simp [SE, staC, zSta, -errV_0]
      refine finW _ (weak_nlB (o := 32) (k := 3) 36 rfl rfl) (finW _ (weak_nlB (o := 32) (k := 4) 3 rfl rfl) ?_)
      exact fin [] (by decide) rfl rfl rfl ⟨rfl, rfl⟩
  rw [if_neg k2]
  simp [hm, h0, h1, h2, h3, k1, k2, -errV_0]
  refine call0 (lays_ok s o.id hs) (by simp [SV, staC, I]) ?_
  rintro y H' ⟨rfl, rfl⟩
  refine ⟨.inl (by simp [I]), le_ok rfl, ?_⟩
  cases hl : layI s.pays o.id with
  | none =>
    simp [I, -errV_0]
    simp [SE, staC, zSta, -errV_0]
    refine finW _ (weak_nlB (o := 32) (k := 3) 36 rfl rfl) (finW _ (weak_nlB (o := 32) (k := 4) 3 rfl rfl) ?_)
    exact fin [] (by decide) rfl rfl rfl ⟨rfl, rfl⟩
  | some p =>
    have hpm := (layI_mem hl).1
    have hmf := (mayP_pos (payL_mem (mayS_t hm).2.1 p hpm)).1
    have hfn : ¬ p.fr = -1 := by omega
    dsimp only
    by_cases ks : p.fr = side
    · have hsn : ¬ side = -1 := by omega
      rw [if_pos ks]
      simp [I, hfn, hsn, ks, -errV_0]
      simp [SE, staC, zSta, -errV_0]
      refine finW _ (weak_nlB (o := 32) (k := 3) 36 rfl rfl) (finW _ (weak_nlB (o := 32) (k := 4) 3 rfl rfl) ?_)
      exact fin [] (by decide) rfl rfl rfl ⟨rfl, rfl⟩
    rw [if_neg ks]
    by_cases k3 : o.kind = 3
    · rw [if_pos k3]
      simp [I, hfn, ks, k3, hat, -errV_0]
      refine call0 (SSettle_ok s o.id o.sec hs ⟨o3, o3'⟩ (by omega)) (by simp [SV, staC, I, Bs]) ?_
      rintro y H' ⟨rfl, rfl⟩
      refine ⟨.inl (by simp), le_ok rfl, ?_⟩
      simp [SE, staC, -errV_0]
      exact fin [] (by decide) rfl rfl rfl ⟨rfl, rfl⟩
    · rw [if_neg k3]
      simp [I, hfn, ks, k3, -errV_0]
      refine call0 (SFail_ok s o.id hs ⟨o3, o3'⟩) (by simp [SV, staC, I, Bs]) ?_
      rintro y H' ⟨rfl, rfl⟩
      refine ⟨.inl (by simp), le_ok rfl, ?_⟩
      simp [SE, staC, -errV_0]
      exact fin [] (by decide) rfl rfl rfl ⟨rfl, rfl⟩

def stSu : EV := .v (.agg [.fz (.lit (.int .i64 0)), .fz (.lit (.int .i64 50)), .fz (.lit (.int .i64 50)), .fz (.lit (.slice none 0 0)), .fz (.lit (.slice none 0 0))])
def opSu : EV := .v (.agg (.fz (.lit (.int .i64 1)) :: .fz (.lit (.int .i64 20)) :: .fz (.lit (.int .i64 0)) :: .fz (.lit (.int .i64 0)) :: .fz (.lit (.int .i64 0)) :: .fz (.lit (.int .i64 0)) :: .fz (.lit (.int .i64 0)) :: (hc hz ++ [.fz (.lit (.slice none 0 0))])))
theorem s50_ok : (Sta.mk 0 50 50 [] []).ok := by simp [Sta.ok, i64]
theorem s50_may : mayS (Sta.mk 0 50 50 [] []) = true := by simp [mayS, total, sumP, sumH, payL, holL]

set_option maxHeartbeats 4000000 in
theorem Do_sure : ECalls Tryz.prog 7 [stSu, I .i64 1, opSu] [] fun y H' => H' = [] ∧ y = SE (⟨1, 70, 30, [], []⟩, 0) := by
  have hv : moveS ⟨0, 50, 50, [], []⟩ 1 20 = (⟨1, 70, 30, [], []⟩, 0) := by simp [moveS, nxt, mayS, total, sumP, sumH, payL, holL]
  have hmv := Move_ok ⟨0, 50, 50, [], []⟩ 1 20 s50_ok (by simp [i64]) (by simp [i64])
  rw [hv] at hmv
  have hck := SCheck_ok ⟨0, 50, 50, [], []⟩ s50_ok
  rw [s50_may] at hck
  simp only [if_true] at hck
  refine ecalls k_WDo ?_
  simp [c_WDo, stSu, opSu, I]
  refine call0 (ecalls_nlS hck) (by simp [Ptr, I, EV.lit, Bs, SV, staC, SE, OpV, wopC]) ?_
  rintro y H' ⟨rfl, rfl⟩
  refine ⟨.inl (by simp [Ptr, I, EV.lit, Bs, SV, staC, SE, OpV, wopC]), le_ok rfl, ?_⟩
  simp
  refine call0 (ecalls_nlS hmv) (by simp [Ptr, I, EV.lit, Bs, SV, staC, SE, OpV, wopC]) ?_
  rintro y H' ⟨rfl, rfl⟩
  refine ⟨.inl (by simp [Ptr, I, EV.lit, Bs, SV, staC, SE, OpV, wopC]), le_ok rfl, ?_⟩
  simp [SE, staC]
  exact fin [] (by decide) rfl rfl rfl ⟨rfl, rfl⟩

set_option maxHeartbeats 4000000 in
theorem sure_ok : ECalls Tryz.prog 6 [] [] fun y H' => H' = [] ∧ y = .lit (.bool true) := by
  refine ecalls k_sure ?_
  simp [c_sure]
  refine call0 Do_sure (by simp [stSu, opSu, I]) ?_
  rintro y H' ⟨rfl, rfl⟩
  refine ⟨.inl (by simp [stSu, opSu]), le_ok rfl, ?_⟩
  simp [SE, staC]
  exact fin [] (by decide) rfl rfl rfl ⟨rfl, rfl⟩

end Go.Proofs.YtpilpjameifcfaaGreatDoor

namespace Go.Proofs.YtpilpjameifcfaaGreatDoor
open Go Go.EW
set_option linter.unusedSimpArgs false
set_option linter.unusedVariables false

theorem ite_z {c : Prop} [Decidable c] {a b : Sta × Nat} (ha : a.1 = zSta) (hb : b.2 ≠ 0 → b.1 = zSta) : (if c then a else b).2 ≠ 0 → (if c then a else b).1 = zSta := by
  split
  · exact fun _ => ha
  · exact hb
theorem addP_z {s : Sta} {p : Pay} : (addP s p).2 ≠ 0 → (addP s p).1 = zSta := by
  unfold addP
  exact ite_z rfl (ite_z rfl (ite_z rfl (ite_z rfl (ite_z rfl (ite_z rfl (ite_z rfl fun h => absurd rfl h))))))
theorem takS_z {s : Sta} {x : Int} (h : (takS s x).2.2 ≠ 0) : (takS s x).1 = zSta := by
  unfold takS at h ⊢
  repeat' split
  all_goals first | rfl | (simp_all)
theorem falS_z {s : Sta} {x : Int} (h : (falS s x).2 ≠ 0) : (falS s x).1 = zSta := by
  unfold falS at h ⊢
  split
  · rfl
  · rename_i h1; rw [if_neg h1] at h; exact absurd rfl h
theorem setS_z {s : Sta} {x : Int} {b : List UInt8} (h : (setS s x b).2 ≠ 0) : (setS s x b).1 = zSta := by
  unfold setS at h ⊢
  split
  · rfl
  · split
    · rfl
    · rename_i h1 h2; rw [if_neg h1, if_neg h2] at h; exact absurd rfl h
theorem addP_h {s : Sta} {p : Pay} (h : (addP s p).2 = 0) : (addP s p).1.holds = s.holds ∧ (addP s p).1.pays.length = s.pays.length + 1 ∧ s.pays.length + s.holds.length < 8 := by
  obtain ⟨h1, h2, h3, h4, h5, h6, h7⟩ := addP_may h
  obtain ⟨⟨_, _, _, _, _, _, _, h8⟩, _⟩ := mayS_t h6
  rw [h5] at h8 ⊢
  have hl : (insP s.pays p).length = s.pays.length + 1 := len_ins Pay.id s.pays p
  dsimp only at h8 ⊢
  exact ⟨rfl, hl, by omega⟩
theorem falS_h {s : Sta} {x : Int} (h : (falS s x).2 = 0) : (falS s x).1.holds = s.holds ∧ (falS s x).1.pays.length ≤ s.pays.length := by
  unfold falS at h ⊢
  split at h
  · rename_i h1; exact absurd h h1
  rename_i h1
  rw [if_neg h1]
  obtain ⟨_, e, _, _, h5, _⟩ := takS_gd (Classical.not_not.1 h1)
  exact ⟨rfl, by show (takS s x).1.pays.length ≤ _; rw [e]; show (delA Pay.id s.pays x).length ≤ _; omega⟩
theorem setS_h {s : Sta} {x : Int} {b : List UInt8} (h : (setS s x b).2 = 0) : (setS s x b).1.holds = s.holds ∧ (setS s x b).1.pays.length ≤ s.pays.length := by
  unfold setS at h ⊢
  split at h
  · rename_i h1; exact absurd h h1
  rename_i h1
  rw [if_neg h1]
  split at h
  · simp at h
  rename_i h2
  rw [if_neg h2]
  obtain ⟨_, e, _, _, h5, _⟩ := takS_gd (Classical.not_not.1 h1)
  exact ⟨rfl, by show (takS s x).1.pays.length ≤ _; rw [e]; show (delA Pay.id s.pays x).length ≤ _; omega⟩

end Go.Proofs.YtpilpjameifcfaaGreatDoor

namespace Go.Proofs.YtpilpjameifcfaaGreatDoor
open Go Go.EW
set_option linter.unusedSimpArgs false
set_option linter.unusedVariables false

/-! ### what a side does, plainly -/
def qF (side : Int) (p : Pay) : Int := if p.fr ≠ side then p.am else 0
/-- What waits that the other side laid. -/
def sumQ (side : Int) (l : List Pay) : Int := (l.map (qF side)).sum
/-- What the other side has. -/
def othS (s : Sta) (side : Int) : Int := sideS s (1 - side)
theorem moveS_z {s : Sta} {a n : Int} : (moveS s a n).2 ≠ 0 → (moveS s a n).1 = zSta := by
  unfold moveS
  refine ite_z rfl (ite_z rfl (ite_z rfl (ite_z rfl ?_)))
  split
  · exact fun h => absurd rfl h
  · exact fun h => absurd rfl h
theorem doS_z {s : Sta} {side : Int} {o : WOp} : (doS s side o).2 ≠ 0 → (doS s side o).1 = zSta := by
  unfold doS
  split
  · exact fun _ => rfl
  split
  · exact moveS_z
  split
  · split
    · exact fun _ => rfl
    · exact addP_z
  split
  · exact fun _ => rfl
  split
  · exact fun _ => rfl
  split
  · exact setS_z
  · exact falS_z
theorem sumQ_b (side : Int) : ∀ (l : List Pay), (∀ p ∈ l, 0 ≤ p.am) → ∀ i, 0 ≤ sumQ side (l.take i) ∧ sumQ side (l.take i) ≤ sumP l
  | [], _, i => by simp [sumQ, sumP]
  | a :: r, h, 0 => by
    have h1 := sumQ_b side r (fun p hp => h p (List.mem_cons_of_mem _ hp)) 0
    have h2 := h a List.mem_cons_self
    have e : sumP (a :: r) = a.am + sumP r := by simp [sumP]
    simp only [List.take_zero] at h1 ⊢
    omega
  | a :: r, h, i + 1 => by
    have h1 := sumQ_b side r (fun p hp => h p (List.mem_cons_of_mem _ hp)) i
    have h2 := h a List.mem_cons_self
    have e : sumP (a :: r) = a.am + sumP r := by simp [sumP]
    have e2 : sumQ side ((a :: r).take (i + 1)) = qF side a + sumQ side (r.take i) := by simp [sumQ]
    have e3 : 0 ≤ qF side a ∧ qF side a ≤ a.am := by unfold qF; split <;> omega
    omega
theorem sumQ_succ (side : Int) {l : List Pay} {i : Nat} {p : Pay} (h : l[i]? = some p) : sumQ side (l.take (i + 1)) = sumQ side (l.take i) + qF side p := by
  have hl := lt_len h
  have e := (List.getElem?_eq_some_iff.1 h).2
  unfold sumQ
  rw [List.take_succ_eq_append_getElem hl, e]
  simp
theorem sumQ_all (side : Int) (l : List Pay) : sumQ side (l.take l.length) = sumQ side l := by rw [List.take_length]
theorem tak_lay {s : Sta} {x : Int} (h : (takS s x).2.2 = 0) : layI s.pays x = some (takS s x).2.1 ∧ sumQ 0 (takS s x).1.pays = sumQ 0 s.pays - qF 0 (takS s x).2.1 ∧ sumQ 1 (takS s x).1.pays = sumQ 1 s.pays - qF 1 (takS s x).2.1 := by
  obtain ⟨h0, e, hm, _⟩ := takS_gd h
  rw [e]
  have h1 : fndI (s.pays.map Pay.id) x = true := by
    unfold takS at h
    split at h
    · simp at h
    split at h
    · simp at h
    rename_i h2
    simpa using h2
  obtain ⟨b, hb, hid⟩ := fnd_get (f := Pay.id) h1
  have hb' : s.pays[posI (s.pays.map (·.id)) x]? = some b := hb
  have ht : (takS s x).2.1 = b := by
    have hn : ¬ (nxt s).2 ≠ 0 := by
      have := h0
      unfold nxt
      rw [if_pos this]
      simp
    unfold takS
    rw [if_neg hn, if_neg (by rw [h1]; simp), hb']
    rfl
  rw [ht]
  refine ⟨?_, sum_del (f := Pay.id) (qF 0) hb, sum_del (f := Pay.id) (qF 1) hb⟩
  refine layI_at (i := posI (s.pays.map (·.id)) x) ?_ hb' hid
  intro k q hk hq hqx
  have hpw := payL_pw (mayS_t h0.1).2.1
  have e1 : (s.pays.map (·.id))[k]? = some q.id := by rw [List.getElem?_map, hq]; rfl
  have e2 : (s.pays.map (·.id))[posI (s.pays.map (·.id)) x]? = some b.id := by rw [List.getElem?_map, hb']; rfl
  have := pw_get hpw hk e1 e2
  omega
/-- What a side does never leaves the other one with less. -/
theorem doS_gd {s : Sta} {side : Int} {o : WOp} (hs : s.ok) (ho : o.pay.ok) (h : (doS s side o).2 = 0) :
    Gd s (doS s side o).1 ∧ mayS s = true ∧ (side = 0 ∨ side = 1) ∧ othS s side ≤ othS (doS s side o).1 side ∧ (othS s side + sumQ side s.pays ≤ othS (doS s side o).1 side + sumQ side (doS s side o).1.pays ∨ o.kind = 3) := by
  unfold doS at h ⊢
  split at h
  · simp at h
  rename_i hg
  have hg' := Classical.not_not.1 hg
  rw [if_neg hg]
  obtain ⟨hm, hsd, hk1, hk4⟩ := hg'
  split at h
  · rename_i k1
    rw [if_pos k1]
    have g := moveS_gd hs h
    refine ⟨g, hm, hsd, ?_⟩
    have h1 : ¬ (nxt s).2 ≠ 0 := by
      intro h1
      unfold moveS at h
      rw [if_pos h1] at h
      exact h1 h
    have h2 : ¬ ¬ (side = 0 ∨ side = 1) := fun h => h hsd
    unfold moveS at h ⊢
    rw [if_neg h1, if_neg h2] at h
    rw [if_neg h1, if_neg h2]
    by_cases h3 : o.am < 1
    · rw [if_pos h3] at h; simp at h
    rw [if_neg h3] at h ⊢
    by_cases h4 : (if side = 0 then s.h0 else s.h1) < o.am
    · rw [if_pos h4] at h; simp at h
    rw [if_neg h4]
    unfold othS sideS
    rcases hsd with e | e
    · rw [if_pos e]; subst e; simp; omega
    · have e0 : ¬ side = 0 := by omega
      rw [if_neg e0]; subst e; simp; omega
  rename_i k1
  rw [if_neg k1]
  split at h
  · rename_i k2
    rw [if_pos k2]
    split at h
    · simp at h
    rename_i k3
    rw [if_neg k3]
    have hf : o.pay.fr = side := Classical.not_not.1 k3
    refine ⟨addP_gd hs ho h, hm, hsd, ?_⟩
    obtain ⟨_, _, _, _, h5, _⟩ := addP_may h
    rw [h5]
    have hq : sumQ side (insP s.pays o.pay) = sumQ side s.pays + qF side o.pay := sum_ins Pay.id (qF side) s.pays o.pay
    have hq0 : qF side o.pay = 0 := by unfold qF; rw [if_neg (by simpa using hf)]
    unfold othS sideS
    dsimp only
    rw [hq, hq0]
    rcases hsd with e | e
    · subst e; simp [hf]
    · subst e; simp [hf]
  rename_i k2
  rw [if_neg k2]
  cases hl : layI s.pays o.id with
  | none => rw [hl] at h; simp at h
  | some p =>
  rw [hl] at h
  dsimp only at h ⊢
  split at h
  · simp at h
  rename_i k3
  rw [if_neg k3]
  split at h
  · rename_i k4
    rw [if_pos k4]
    refine ⟨setS_gd hs h, hm, hsd, ?_, .inr k4⟩
    unfold setS at h ⊢
    split at h
    · rename_i h1; exact absurd h h1
    rename_i h1
    rw [if_neg h1]
    split at h
    · simp at h
    rename_i h2
    rw [if_neg h2]
    obtain ⟨_, _, hmem, _, _, h10⟩ := takS_gd (Classical.not_not.1 h1)
    have hfr := (mayP_pos (payL_mem (mayS_t hm).2.1 _ hmem)).1
    unfold othS sideS
    dsimp only
    split <;> split <;> omega
  · rename_i k4
    rw [if_neg k4]
    refine ⟨falS_gd hs h, hm, hsd, ?_⟩
    unfold falS at h ⊢
    split at h
    · rename_i h1; exact absurd h h1
    rename_i h1
    rw [if_neg h1]
    have ht : (takS s o.id).2.2 = 0 := Classical.not_not.1 h1
    obtain ⟨_, _, hmem, _, _, h10⟩ := takS_gd ht
    obtain ⟨q1, q2, q3⟩ := tak_lay ht
    rw [hl] at q1
    have hp := Option.some.inj q1
    rw [← hp] at q2 q3 h10 hmem ⊢
    have hfr := (mayP_pos (payL_mem (mayS_t hm).2.1 _ hmem)).1
    have hq : sumQ side (takS s o.id).1.pays = sumQ side s.pays - p.am := by
      rcases hsd with e | e
      · subst e; rw [q2]; unfold qF; rw [if_pos k3]
      · subst e; rw [q3]; unfold qF; rw [if_pos k3]
    unfold othS sideS
    dsimp only
    rw [hq]
    rcases hsd with e | e
    · subst e
      have hp1 : ¬ p.fr = 0 := k3
      simp [hp1]; omega
    · subst e
      have hp1 : p.fr = 0 := by omega
      simp [hp1]; omega

end Go.Proofs.YtpilpjameifcfaaGreatDoor

namespace Go.Proofs.YtpilpjameifcfaaGreatDoor
open Go Go.EW
set_option linter.unusedSimpArgs false
set_option linter.unusedVariables false

/-- The first place of a number, or -1. -/
def FI (l : List Int) (x r : Int) : Prop := (r = -1 ∧ ∀ (k : Nat) (y : Int), l[k]? = some y → y ≠ x) ∨ ∃ i : Nat, r = i ∧ l[i]? = some x
theorem FI_pos {l : List Int} {x r : Int} (hs : l.Pairwise (· < ·)) (h : FI l x r) : (fndI l x = false ∧ r = -1) ∨ (fndI l x = true ∧ r = posI l x) := by
  rcases h with ⟨h1, h2⟩ | ⟨i, h1, h2⟩
  · refine .inl ⟨?_, h1⟩
    unfold fndI
    exact decide_eq_false fun h => h2 _ _ h rfl
  · have hi := lt_len h2
    have hp : posI l x = i := posI_eq (by omega) (fun k y hk hy => pw_get hs hk hy h2) (fun y hy => by rw [h2] at hy; have := Option.some.inj hy; omega)
    refine .inr ⟨?_, by rw [hp]; exact h1⟩
    unfold fndI
    rw [hp]
    exact decide_eq_true h2

end Go.Proofs.YtpilpjameifcfaaGreatDoor

namespace Go.Proofs.YtpilpjameifcfaaGreatDoor
open Go Go.EW
set_option linter.unusedSimpArgs false
set_option linter.unusedVariables false

@[simp] def l_RpayAt_1 (_ : Unit) : List EOp := [⟨0, (some 4), none, (.q (.mov (.k (.int .i64 0)))), []⟩]
@[simp] def b_RpayAt_2 (_ : Unit) : EB := reg0 (hid l_RpayAt_1) 1
@[simp] def l_RpayAt_3 (_ : Unit) : List EOp := [⟨0, (some 5), none, (.q (.mov (.k (.int .i64 0)))), []⟩]
@[simp] def b_RpayAt_4 (_ : Unit) : EB := reg0 (hid l_RpayAt_3) 1
@[simp] def l_RpayAt_5 (_ : Unit) : List EOp := [⟨0, (some 6), none, (.q (.mov (.t 5))), []⟩, ⟨1, (some 7), none, (.q (.mov (.t 0))), []⟩, ⟨2, (some 8), none, (.q (.len (.t 7))), []⟩, ⟨3, (some 9), none, (.q (.bin .lss (.t 6) (.t 8))), []⟩]
@[simp] def b_RpayAt_6 (_ : Unit) : EB := reg0 (hid l_RpayAt_5) 4
@[simp] def b_RpayAt_7 (_ : Unit) : EB := .cond (.t 9) .skip (.exit 0)
@[simp] def b_RpayAt_8 (_ : Unit) : EB := .seq (hid b_RpayAt_6) (hid b_RpayAt_7)
@[simp] def l_RpayAt_10 (_ : Unit) : List EOp := [⟨6, (some 18), none, (.q (.bin .eql (.t 16) (.t 17))), []⟩]
@[simp] def l_RpayAt_9 (_ : Unit) : List EOp := ⟨0, (some 12), none, (.q (.mov (.t 0))), []⟩ :: ⟨1, (some 13), none, (.q (.mov (.t 5))), []⟩ :: ⟨2, (some 14), none, (.q (.isl 36 (.t 12) (.t 13))), []⟩ :: ⟨3, (some 15), none, (.q (.fad 0 (.t 14))), []⟩ :: ⟨4, (some 16), none, (.q (.ldc (.t 15))), []⟩ :: ⟨5, (some 17), none, (.q (.mov (.t 1))), []⟩ :: hid l_RpayAt_10
@[simp] def b_RpayAt_11 (_ : Unit) : EB := reg0 (hid l_RpayAt_9) 7
@[simp] def l_RpayAt_12 (_ : Unit) : List EOp := [⟨0, (some 19), none, (.q (.mov (.t 5))), []⟩, ⟨1, (some 4), none, (.q (.mov (.t 19))), []⟩]
@[simp] def b_RpayAt_13 (_ : Unit) : EB := reg0 (hid l_RpayAt_12) 2
@[simp] def b_RpayAt_14 (_ : Unit) : EB := .seq (hid b_RpayAt_13) .ret
@[simp] def b_RpayAt_15 (_ : Unit) : EB := .cond (.t 18) (hid b_RpayAt_14) .skip
@[simp] def b_RpayAt_16 (_ : Unit) : EB := .seq (hid b_RpayAt_11) (hid b_RpayAt_15)
@[simp] def b_RpayAt_17 (_ : Unit) : EB := .block 1 (hid b_RpayAt_16)
@[simp] def l_RpayAt_18 (_ : Unit) : List EOp := [⟨0, (some 10), none, (.q (.mov (.t 5))), []⟩, ⟨1, (some 11), none, (.q (.bin .add (.t 10) (.k (.int .i64 1)))), []⟩, ⟨2, (some 5), none, (.q (.mov (.t 11))), []⟩]
@[simp] def b_RpayAt_19 (_ : Unit) : EB := reg0 (hid l_RpayAt_18) 3
@[simp] def b_RpayAt_20 (_ : Unit) : EB := .seq (hid b_RpayAt_17) (hid b_RpayAt_19)
@[simp] def b_RpayAt_21 (_ : Unit) : EB := .seq (hid b_RpayAt_8) (hid b_RpayAt_20)
@[simp] def b_RpayAt_22 (_ : Unit) : EB := .loop (hid b_RpayAt_21)
@[simp] def b_RpayAt_23 (_ : Unit) : EB := .block 0 (hid b_RpayAt_22)
@[simp] def b_RpayAt_24 (_ : Unit) : EB := .seq (hid b_RpayAt_4) (hid b_RpayAt_23)
@[simp] def l_RpayAt_25 (_ : Unit) : List EOp := [⟨0, (some 4), none, (.q (.mov (.k (.int .i64 (-1))))), []⟩]
@[simp] def b_RpayAt_26 (_ : Unit) : EB := reg0 (hid l_RpayAt_25) 1
@[simp] def b_RpayAt_27 (_ : Unit) : EB := .seq (hid b_RpayAt_26) .ret
@[simp] def b_RpayAt_28 (_ : Unit) : EB := .seq (hid b_RpayAt_24) (hid b_RpayAt_27)
@[simp] def b_RpayAt_29 (_ : Unit) : EB := .seq (hid b_RpayAt_2) (hid b_RpayAt_28)
def c_RpayAt : EB × List QOp × Nat := ((hid b_RpayAt_29), [(.mov (.t 4))], 20)
theorem k_RpayAt : cfun Tryz.prog 73 = some c_RpayAt := by kernel_rfl

@[simp] def l_RAdd_1 (_ : Unit) : List EOp := [⟨0, (some 2), none, (.q (.box 26 (.t 0))), []⟩, ⟨1, (some 3), none, (.q (.box 30 (.t 1))), []⟩, ⟨2, (some 4), none, (.q (.alloc 26 [(.int .i64 0), (.int .i64 0), (.int .i64 0), (.slice none 0 0), (.slice none 0 0)])), []⟩, ⟨3, (some 5), none, (.q (.mov (.k (.int .i64 0)))), []⟩]
@[simp] def b_RAdd_2 (_ : Unit) : EB := reg0 (hid l_RAdd_1) 4
@[simp] def l_RAdd_3 (_ : Unit) : List EOp := [⟨0, (some 11), none, (.q (.lda 5 (.t 2))), []⟩, ⟨1, (some 12), none, (.call 71 [(.t 11)]), []⟩, ⟨2, (some 13), none, (.q (.un .not (.t 12))), []⟩, ⟨3, (some 10), none, (.q (.mov (.t 13))), []⟩]
@[simp] def b_RAdd_4 (_ : Unit) : EB := reg0 (hid l_RAdd_3) 4
@[simp] def l_RAdd_5 (_ : Unit) : List EOp := [⟨0, (some 14), none, (.q (.build [(.int .i64 0), (.int .i64 0), (.int .i64 0), (.slice none 0 0), (.slice none 0 0)] [])), []⟩, ⟨1, none, none, (.fz (.sto 5 (.t 4) (.t 14))), []⟩, ⟨2, (some 5), none, (.q (.mov (.k (.int .i64 1)))), []⟩]
@[simp] def b_RAdd_6 (_ : Unit) : EB := reg0 (hid l_RAdd_5) 3
@[simp] def b_RAdd_7 (_ : Unit) : EB := .seq (hid b_RAdd_6) .ret
@[simp] def l_RAdd_9 (_ : Unit) : List EOp := [⟨6, (some 22), (some (19, true)), (.q (.bin .neq (.t 21) (.k (.int .i64 1)))), []⟩, ⟨7, (some 23), none, (.q (.pick (.t 19) (.t 22) (.k (.bool false)))), []⟩, ⟨8, (some 15), none, (.q (.mov (.t 23))), []⟩]
@[simp] def l_RAdd_8 (_ : Unit) : List EOp := ⟨0, (some 16), none, (.q (.fad 1 (.t 3))), []⟩ :: ⟨1, (some 17), none, (.q (.ldc (.t 16))), []⟩ :: ⟨2, (some 18), none, (.q (.bin .neq (.t 17) (.k (.int .i64 0)))), []⟩ :: ⟨3, (some 19), none, (.q (.mov (.t 18))), []⟩ :: ⟨4, (some 20), (some (19, true)), (.q (.fad 1 (.t 3))), []⟩ :: ⟨5, (some 21), (some (19, true)), (.q (.ldc (.t 20))), []⟩ :: hid l_RAdd_9
@[simp] def b_RAdd_10 (_ : Unit) : EB := reg0 (hid l_RAdd_8) 9
@[simp] def l_RAdd_11 (_ : Unit) : List EOp := [⟨0, (some 24), none, (.q (.build [(.int .i64 0), (.int .i64 0), (.int .i64 0), (.slice none 0 0), (.slice none 0 0)] [])), []⟩, ⟨1, none, none, (.fz (.sto 5 (.t 4) (.t 24))), []⟩, ⟨2, (some 5), none, (.q (.mov (.k (.int .i64 33)))), []⟩]
@[simp] def b_RAdd_12 (_ : Unit) : EB := reg0 (hid l_RAdd_11) 3
@[simp] def b_RAdd_13 (_ : Unit) : EB := .seq (hid b_RAdd_12) .ret
@[simp] def l_RAdd_14 (_ : Unit) : List EOp := [⟨0, (some 26), none, (.q (.fad 2 (.t 3))), []⟩, ⟨1, (some 27), none, (.q (.ldc (.t 26))), []⟩, ⟨2, (some 28), none, (.q (.bin .lss (.t 27) (.k (.int .i64 10)))), []⟩, ⟨3, (some 25), none, (.q (.mov (.t 28))), []⟩]
@[simp] def b_RAdd_15 (_ : Unit) : EB := reg0 (hid l_RAdd_14) 4
@[simp] def l_RAdd_16 (_ : Unit) : List EOp := [⟨0, (some 29), none, (.q (.build [(.int .i64 0), (.int .i64 0), (.int .i64 0), (.slice none 0 0), (.slice none 0 0)] [])), []⟩, ⟨1, none, none, (.fz (.sto 5 (.t 4) (.t 29))), []⟩, ⟨2, (some 5), none, (.q (.mov (.k (.int .i64 27)))), []⟩]
@[simp] def b_RAdd_17 (_ : Unit) : EB := reg0 (hid l_RAdd_16) 3
@[simp] def b_RAdd_18 (_ : Unit) : EB := .seq (hid b_RAdd_17) .ret
@[simp] def l_RAdd_19 (_ : Unit) : List EOp := [⟨0, (some 31), none, (.q (.lda 36 (.t 3))), []⟩, ⟨1, (some 32), none, (.call 68 [(.t 31)]), []⟩, ⟨2, (some 33), none, (.q (.un .not (.t 32))), []⟩, ⟨3, (some 30), none, (.q (.mov (.t 33))), []⟩]
@[simp] def b_RAdd_20 (_ : Unit) : EB := reg0 (hid l_RAdd_19) 4
@[simp] def l_RAdd_21 (_ : Unit) : List EOp := [⟨0, (some 34), none, (.q (.build [(.int .i64 0), (.int .i64 0), (.int .i64 0), (.slice none 0 0), (.slice none 0 0)] [])), []⟩, ⟨1, none, none, (.fz (.sto 5 (.t 4) (.t 34))), []⟩, ⟨2, (some 5), none, (.q (.mov (.k (.int .i64 1)))), []⟩]
@[simp] def b_RAdd_22 (_ : Unit) : EB := reg0 (hid l_RAdd_21) 3
@[simp] def b_RAdd_23 (_ : Unit) : EB := .seq (hid b_RAdd_22) .ret
@[simp] def l_RAdd_25 (_ : Unit) : List EOp := [⟨6, (some 35), none, (.q (.mov (.t 41))), []⟩]
@[simp] def l_RAdd_24 (_ : Unit) : List EOp := ⟨0, (some 36), none, (.q (.fad 3 (.t 2))), []⟩ :: ⟨1, (some 37), none, (.q (.ldc (.t 36))), []⟩ :: ⟨2, (some 38), none, (.q (.fad 0 (.t 3))), []⟩ :: ⟨3, (some 39), none, (.q (.ldc (.t 38))), []⟩ :: ⟨4, (some 40), none, (.call 73 [(.t 37), (.t 39)]), []⟩ :: ⟨5, (some 41), none, (.q (.bin .geq (.t 40) (.k (.int .i64 0)))), []⟩ :: hid l_RAdd_25
@[simp] def b_RAdd_26 (_ : Unit) : EB := reg0 (hid l_RAdd_24) 7
@[simp] def l_RAdd_27 (_ : Unit) : List EOp := [⟨0, (some 42), none, (.q (.build [(.int .i64 0), (.int .i64 0), (.int .i64 0), (.slice none 0 0), (.slice none 0 0)] [])), []⟩, ⟨1, none, none, (.fz (.sto 5 (.t 4) (.t 42))), []⟩, ⟨2, (some 5), none, (.q (.mov (.k (.int .i64 9)))), []⟩]
@[simp] def b_RAdd_28 (_ : Unit) : EB := reg0 (hid l_RAdd_27) 3
@[simp] def b_RAdd_29 (_ : Unit) : EB := .seq (hid b_RAdd_28) .ret
@[simp] def l_RAdd_31 (_ : Unit) : List EOp := [⟨6, (some 50), none, (.q (.bin .add (.t 46) (.t 49))), []⟩, ⟨7, (some 51), none, (.q (.bin .gtr (.t 50) (.k (.int .i64 7)))), []⟩, ⟨8, (some 43), none, (.q (.mov (.t 51))), []⟩]
@[simp] def l_RAdd_30 (_ : Unit) : List EOp := ⟨0, (some 44), none, (.q (.fad 3 (.t 2))), []⟩ :: ⟨1, (some 45), none, (.q (.ldc (.t 44))), []⟩ :: ⟨2, (some 46), none, (.q (.len (.t 45))), []⟩ :: ⟨3, (some 47), none, (.q (.fad 4 (.t 2))), []⟩ :: ⟨4, (some 48), none, (.q (.ldc (.t 47))), []⟩ :: ⟨5, (some 49), none, (.q (.len (.t 48))), []⟩ :: hid l_RAdd_31
@[simp] def b_RAdd_32 (_ : Unit) : EB := reg0 (hid l_RAdd_30) 9
@[simp] def l_RAdd_33 (_ : Unit) : List EOp := [⟨0, (some 52), none, (.q (.build [(.int .i64 0), (.int .i64 0), (.int .i64 0), (.slice none 0 0), (.slice none 0 0)] [])), []⟩, ⟨1, none, none, (.fz (.sto 5 (.t 4) (.t 52))), []⟩, ⟨2, (some 5), none, (.q (.mov (.k (.int .i64 30)))), []⟩]
@[simp] def b_RAdd_34 (_ : Unit) : EB := reg0 (hid l_RAdd_33) 3
@[simp] def b_RAdd_35 (_ : Unit) : EB := .seq (hid b_RAdd_34) .ret
@[simp] def l_RAdd_37 (_ : Unit) : List EOp := [⟨6, (some 60), none, (.q (.ldc (.t 59))), []⟩, ⟨7, (some 61), none, (.q (.bin .lss (.t 58) (.t 60))), []⟩, ⟨8, (some 53), none, (.q (.mov (.t 61))), []⟩]
@[simp] def l_RAdd_36 (_ : Unit) : List EOp := ⟨0, (some 54), none, (.q (.fad 1 (.t 3))), []⟩ :: ⟨1, (some 55), none, (.q (.ldc (.t 54))), []⟩ :: ⟨2, (some 56), none, (.q (.fad 1 (.t 2))), []⟩ :: ⟨3, (some 57), none, (.q (.iad 2 1 (.t 56) (.t 55))), []⟩ :: ⟨4, (some 58), none, (.q (.ldc (.t 57))), []⟩ :: ⟨5, (some 59), none, (.q (.fad 2 (.t 3))), []⟩ :: hid l_RAdd_37
@[simp] def b_RAdd_38 (_ : Unit) : EB := reg0 (hid l_RAdd_36) 9
@[simp] def l_RAdd_39 (_ : Unit) : List EOp := [⟨0, (some 62), none, (.q (.build [(.int .i64 0), (.int .i64 0), (.int .i64 0), (.slice none 0 0), (.slice none 0 0)] [])), []⟩, ⟨1, none, none, (.fz (.sto 5 (.t 4) (.t 62))), []⟩, ⟨2, (some 5), none, (.q (.mov (.k (.int .i64 20)))), []⟩]
@[simp] def b_RAdd_40 (_ : Unit) : EB := reg0 (hid l_RAdd_39) 3
@[simp] def b_RAdd_41 (_ : Unit) : EB := .seq (hid b_RAdd_40) .ret
@[simp] def b_RAdd_42 (_ : Unit) : EB := .cond (.t 53) (hid b_RAdd_41) .skip
@[simp] def b_RAdd_43 (_ : Unit) : EB := .seq (hid b_RAdd_38) (hid b_RAdd_42)
@[simp] def b_RAdd_44 (_ : Unit) : EB := .cond (.t 43) (hid b_RAdd_35) (hid b_RAdd_43)
@[simp] def b_RAdd_45 (_ : Unit) : EB := .seq (hid b_RAdd_32) (hid b_RAdd_44)
@[simp] def b_RAdd_46 (_ : Unit) : EB := .cond (.t 35) (hid b_RAdd_29) (hid b_RAdd_45)
@[simp] def b_RAdd_47 (_ : Unit) : EB := .seq (hid b_RAdd_26) (hid b_RAdd_46)
@[simp] def b_RAdd_48 (_ : Unit) : EB := .cond (.t 30) (hid b_RAdd_23) (hid b_RAdd_47)
@[simp] def b_RAdd_49 (_ : Unit) : EB := .seq (hid b_RAdd_20) (hid b_RAdd_48)
@[simp] def b_RAdd_50 (_ : Unit) : EB := .cond (.t 25) (hid b_RAdd_18) (hid b_RAdd_49)
@[simp] def b_RAdd_51 (_ : Unit) : EB := .seq (hid b_RAdd_15) (hid b_RAdd_50)
@[simp] def b_RAdd_52 (_ : Unit) : EB := .cond (.t 15) (hid b_RAdd_13) (hid b_RAdd_51)
@[simp] def b_RAdd_53 (_ : Unit) : EB := .seq (hid b_RAdd_10) (hid b_RAdd_52)
@[simp] def b_RAdd_54 (_ : Unit) : EB := .cond (.t 10) (hid b_RAdd_7) (hid b_RAdd_53)
@[simp] def b_RAdd_55 (_ : Unit) : EB := .seq (hid b_RAdd_4) (hid b_RAdd_54)
@[simp] def b_RAdd_56 (_ : Unit) : EB := .block 0 (hid b_RAdd_55)
@[simp] def l_RAdd_57 (_ : Unit) : List EOp := [⟨0, (some 6), none, (.q (.mov (.k (.slice none 0 0)))), []⟩]
@[simp] def b_RAdd_58 (_ : Unit) : EB := reg0 (hid l_RAdd_57) 1
@[simp] def l_RAdd_59 (_ : Unit) : List EOp := [⟨0, (some 7), none, (.q (.mov (.k (.int .i64 0)))), []⟩]
@[simp] def b_RAdd_60 (_ : Unit) : EB := reg0 (hid l_RAdd_59) 1
@[simp] def l_RAdd_63 (_ : Unit) : List EOp := [⟨12, (some 75), (some (68, true)), (.q (.fad 0 (.t 3))), []⟩, ⟨13, (some 76), (some (68, true)), (.q (.ldc (.t 75))), []⟩, ⟨14, (some 77), (some (68, true)), (.q (.bin .lss (.t 74) (.t 76))), []⟩, ⟨15, (some 78), none, (.q (.pick (.t 68) (.t 77) (.k (.bool false)))), []⟩]
@[simp] def l_RAdd_62 (_ : Unit) : List EOp := ⟨6, (some 69), (some (68, true)), (.q (.fad 3 (.t 2))), []⟩ :: ⟨7, (some 70), (some (68, true)), (.q (.ldc (.t 69))), []⟩ :: ⟨8, (some 71), (some (68, true)), (.q (.mov (.t 7))), []⟩ :: ⟨9, (some 72), (some (68, true)), (.q (.isl 36 (.t 70) (.t 71))), []⟩ :: ⟨10, (some 73), (some (68, true)), (.q (.fad 0 (.t 72))), []⟩ :: ⟨11, (some 74), (some (68, true)), (.q (.ldc (.t 73))), []⟩ :: hid l_RAdd_63
@[simp] def l_RAdd_61 (_ : Unit) : List EOp := ⟨0, (some 63), none, (.q (.mov (.t 7))), []⟩ :: ⟨1, (some 64), none, (.q (.fad 3 (.t 2))), []⟩ :: ⟨2, (some 65), none, (.q (.ldc (.t 64))), []⟩ :: ⟨3, (some 66), none, (.q (.len (.t 65))), []⟩ :: ⟨4, (some 67), none, (.q (.bin .lss (.t 63) (.t 66))), []⟩ :: ⟨5, (some 68), none, (.q (.mov (.t 67))), []⟩ :: hid l_RAdd_62
@[simp] def b_RAdd_64 (_ : Unit) : EB := reg0 (hid l_RAdd_61) 16
@[simp] def b_RAdd_65 (_ : Unit) : EB := .cond (.t 78) .skip (.exit 1)
@[simp] def b_RAdd_66 (_ : Unit) : EB := .seq (hid b_RAdd_64) (hid b_RAdd_65)
@[simp] def l_RAdd_67 (_ : Unit) : List EOp := [⟨0, (some 79), none, (.q (.mov (.t 7))), []⟩, ⟨1, (some 80), none, (.q (.bin .add (.t 79) (.k (.int .i64 1)))), []⟩, ⟨2, (some 7), none, (.q (.mov (.t 80))), []⟩]
@[simp] def b_RAdd_68 (_ : Unit) : EB := reg0 (hid l_RAdd_67) 3
@[simp] def b_RAdd_69 (_ : Unit) : EB := .block 2 (hid b_RAdd_68)
@[simp] def b_RAdd_70 (_ : Unit) : EB := .seq (hid b_RAdd_66) (hid b_RAdd_69)
@[simp] def b_RAdd_71 (_ : Unit) : EB := .loop (hid b_RAdd_70)
@[simp] def b_RAdd_72 (_ : Unit) : EB := .block 1 (hid b_RAdd_71)
@[simp] def l_RAdd_75 (_ : Unit) : List EOp := [⟨8, (some 89), none, (.app 30 36 64 (.t 86) (.t 88)), [9, 10, 11, 12]⟩, ⟨13, (some 94), none, (.app 30 36 64 (.t 89) (.t 93)), []⟩, ⟨14, (some 6), none, (.q (.mov (.t 94))), []⟩]
@[simp] def l_RAdd_74 (_ : Unit) : List EOp := ⟨7, (some 88), none, (.q (.bsl 36 (([(.int .i64 0), (.int .i64 0), (.int .i64 0), (.int .i64 0)] : List Value) ++ zU8) 1 [(0, (.t 87))])), []⟩ :: ⟨9, (some 90), none, (.q (.fad 3 (.t 2))), []⟩ :: ⟨10, (some 91), none, (.q (.ldc (.t 90))), []⟩ :: ⟨11, (some 92), none, (.q (.mov (.t 7))), []⟩ :: ⟨12, (some 93), none, (.q (.ssl 36 (.t 91) (some (.t 92)) none)), []⟩ :: ⟨5, (some 86), none, (.app 30 36 64 (.t 81) (.t 85)), [6, 7, 9, 10, 11, 12]⟩ :: hid l_RAdd_75
@[simp] def l_RAdd_73 (_ : Unit) : List EOp := ⟨0, (some 81), none, (.q (.mov (.t 6))), []⟩ :: ⟨1, (some 82), none, (.q (.fad 3 (.t 2))), []⟩ :: ⟨2, (some 83), none, (.q (.ldc (.t 82))), []⟩ :: ⟨3, (some 84), none, (.q (.mov (.t 7))), []⟩ :: ⟨4, (some 85), none, (.q (.ssl 36 (.t 83) none (some (.t 84)))), []⟩ :: ⟨6, (some 87), none, (.q (.lda 36 (.t 3))), []⟩ :: hid l_RAdd_74
@[simp] def b_RAdd_76 (_ : Unit) : EB := reg1 (hid l_RAdd_73) 15
@[simp] def l_RAdd_78 (_ : Unit) : List EOp := [⟨6, (some 95), none, (.q (.mov (.t 101))), []⟩, ⟨7, (some 102), none, (.q (.ext 0 (.t 95))), []⟩, ⟨8, (some 103), none, (.q (.ext 1 (.t 95))), []⟩, ⟨9, (some 8), none, (.q (.mov (.t 102))), []⟩, ⟨10, (some 9), none, (.q (.mov (.t 103))), []⟩]
@[simp] def l_RAdd_77 (_ : Unit) : List EOp := ⟨0, (some 96), none, (.q (.fad 1 (.t 3))), []⟩ :: ⟨1, (some 97), none, (.q (.ldc (.t 96))), []⟩ :: ⟨2, (some 98), none, (.q (.fad 2 (.t 3))), []⟩ :: ⟨3, (some 99), none, (.q (.ldc (.t 98))), []⟩ :: ⟨4, (some 100), none, (.q (.un .neg (.t 99))), []⟩ :: ⟨5, (some 101), none, (.call 74 [(.t 97), (.t 100)]), []⟩ :: hid l_RAdd_78
@[simp] def b_RAdd_79 (_ : Unit) : EB := reg0 (hid l_RAdd_77) 11
@[simp] def l_RAdd_81 (_ : Unit) : List EOp := [⟨6, (some 110), none, (.call 72 [(.t 104), (.t 105), (.t 106), (.t 107), (.t 109)]), []⟩, ⟨7, none, none, (.fz (.sto 5 (.t 4) (.t 110))), []⟩, ⟨8, (some 5), none, (.q (.mov (.k (.int .i64 0)))), []⟩]
@[simp] def l_RAdd_80 (_ : Unit) : List EOp := ⟨0, (some 104), none, (.q (.lda 5 (.t 2))), []⟩ :: ⟨1, (some 105), none, (.q (.mov (.t 8))), []⟩ :: ⟨2, (some 106), none, (.q (.mov (.t 9))), []⟩ :: ⟨3, (some 107), none, (.q (.mov (.t 6))), []⟩ :: ⟨4, (some 108), none, (.q (.fad 4 (.t 2))), []⟩ :: ⟨5, (some 109), none, (.q (.ldc (.t 108))), []⟩ :: hid l_RAdd_81
@[simp] def b_RAdd_82 (_ : Unit) : EB := reg0 (hid l_RAdd_80) 9
@[simp] def b_RAdd_83 (_ : Unit) : EB := .seq (hid b_RAdd_82) .ret
@[simp] def b_RAdd_84 (_ : Unit) : EB := .seq (hid b_RAdd_79) (hid b_RAdd_83)
@[simp] def b_RAdd_85 (_ : Unit) : EB := .seq (hid b_RAdd_76) (hid b_RAdd_84)
@[simp] def b_RAdd_86 (_ : Unit) : EB := .seq (hid b_RAdd_72) (hid b_RAdd_85)
@[simp] def b_RAdd_87 (_ : Unit) : EB := .seq (hid b_RAdd_60) (hid b_RAdd_86)
@[simp] def b_RAdd_88 (_ : Unit) : EB := .seq (hid b_RAdd_58) (hid b_RAdd_87)
@[simp] def b_RAdd_89 (_ : Unit) : EB := .seq (hid b_RAdd_56) (hid b_RAdd_88)
@[simp] def b_RAdd_90 (_ : Unit) : EB := .seq (hid b_RAdd_2) (hid b_RAdd_89)
def c_RAdd : EB × List QOp × Nat := ((hid b_RAdd_90), [(.lda 5 (.t 4)), (.mov (.t 5))], 111)
theorem k_RAdd : cfun Tryz.prog 31 = some c_RAdd := by kernel_rfl


set_option maxHeartbeats 2000000 in
theorem RpayAt_ok (l : List Pay) (x : Int) (hl : ∀ p ∈ l, p.ok) (hn : l.length ≤ 100000000) : ECalls Tryz.prog 73 [PL l, I .i64 x] [] fun y H' => H' = [] ∧ ∃ r, FI (l.map (·.id)) x r ∧ y = I .i64 r := by
  obtain ⟨ids, hids⟩ : ∃ ids, l.map (·.id) = ids := ⟨_, rfl⟩
  rw [hids]
  have idl : ids.length = l.length := by rw [← hids]; simp
  have hget : ∀ (k : Nat) (p : Pay), l[k]? = some p → ids[k]? = some p.id := fun k p h => by rw [← hids, List.getElem?_map, h]; rfl
  refine ecalls k_RpayAt ?_
  simp [c_RpayAt, I, PL]
  refine eloop (α := Nat) (fun i => i ≤ l.length ∧ ∀ (k : Nat) (y : Int), k < i → ids[k]? = some y → y ≠ x) (fun i => l.length - i)
    (fun i => [PL l, I .i64 x, .any, .any, .any, I .i64 i, .any, .any, .any, .any, .any, .any, .any, .any, .any, .any, .any, .any, .any, .any]) (fun _ => []) 0 []
    ⟨Nat.zero_le _, fun k y h => by omega⟩ (by simp [I, PL]) (by simp) (by simp) (by simp) (by simp) ?_
  rintro i ⟨hi, hlo⟩
  simp [I, PL]
  refine alt (fun hlt => ?_) (fun hlt => ?_)
  · have hln : i < l.length := by omega
    obtain ⟨p, hc⟩ : ∃ p, l[i]? = some p := ⟨l[i], by simp [hln]⟩
    have hge : (payv l)[i]'(by simp [hln]) = payF p := by
      have e := payv_get hc
      rw [List.getElem?_eq_getElem (by simp [hln])] at e
      exact Option.some.inj e
    have w4 : IntKind.i64.wrap ((i : Int) + 1) = ((i + 1 : Nat) : Int) := wrap_i64 (by omega) (by omega)
    have hpo := hl p (List.mem_of_getElem? hc)
    have hfl := payF_len hpo.2.2.2.2
    simp [hln, hge, payF]
    refine alt (fun he => ?_) (fun he => ?_)
    · simp
      exact fin [] (by decide) rfl rfl rfl ⟨rfl, (i : Int), .inr ⟨i, rfl, by rw [hget i p hc, he]⟩, rfl⟩
    · simp [w4, -Int.natCast_add]
      refine round (i + 1) [] ⟨by omega, ?_⟩ (by omega) (by simp) (by simp) (by simp) (by simp) (by simp)
      intro k y hk hy
      rcases Nat.lt_or_ge k i with h1 | h1
      · exact hlo k y h1 hy
      · obtain rfl : k = i := by omega
        rw [hget k p hc] at hy
        obtain rfl := Option.some.inj hy
        exact he
  · simp
    exact fin [] (by decide) rfl rfl rfl ⟨rfl, -1, .inl ⟨rfl, fun k y hk => hlo k y (by have := lt_len hk; omega) hk⟩, rfl⟩

theorem RwithP_ok (s : Sta) (a b : Int) (h1 : IntKind.i64.wrap (s.num + 1) = s.num + 1) (h2 : IntKind.i64.wrap (s.h0 + a) = s.h0 + a) (h3 : IntKind.i64.wrap (s.h1 + b) = s.h1 + b) (ps : List Pay) (hs : List Hol) :
    ECalls Tryz.prog 72 [SV s, I .i64 a, I .i64 b, .v (.c (.row 0 ps.length)), HL hs] [.row 30 36 (payv ps)] fun y H' => H' = [some (.row 30 36 (payv ps))] ∧ y = .v (.agg [.fz (.lit (.int .i64 (s.num + 1))), .fz (.lit (.int .i64 (s.h0 + a))), .fz (.lit (.int .i64 (s.h1 + b))), .row 0 ps.length, .fz (.sl 3 (holv hs))]) := by
  refine ecalls k_Rwith ?_
  simp [c_Rwith, SV, staC, I, PL, HL, h1, h2, h3]
  exact fin [] (by decide) rfl rfl rfl ⟨rfl, rfl⟩

set_option maxHeartbeats 4000000 in
theorem RAdd_ok (s : Sta) (p : Pay) (hs : s.ok) (hp : p.ok) : ECalls Tryz.prog 31 [SV s, .v (.agg (payC p))] [] fun y H' => H' = [] ∧ y = RE (addP s p) := by
  obtain ⟨ok1, ok2, ok3, ok4, ok5, ok6, ok7⟩ := id hs
  obtain ⟨⟨p1, p1'⟩, ⟨p2, p2'⟩, ⟨p3, p3'⟩, ⟨p4, p4'⟩, p5⟩ := id hp
  have hpt := payC_take p5
  have hpl := payC_len p5
  have hfl := payF_len p5
  refine ecalls k_RAdd ?_
  simp [c_RAdd, SV, staC, hpt, hpl, I, -errV_0]
  refine call0 (Rright_ok s hs) (by simp [SV, staC]) ?_
  rintro y H' ⟨rfl, rfl⟩
  refine ⟨.inl (by simp), le_ok rfl, ?_⟩
  by_cases h0 : mayS s = true ∧ s.num ≠ 1099511627776
  rotate_left
  · have hx : nxt s = (zSta, 1) := by simp only [nxt, if_neg h0]
    have ha : addP s p = (zSta, 1) := by simp [addP, hx]
    rw [ha, decide_eq_false h0]
    simp [RE, staC, zSta]
    refine finW _ (weak_nlB (o := 32) (k := 3) 36 rfl rfl) (finW _ (weak_nlB (o := 32) (k := 4) 3 rfl rfl) ?_)
    exact fin [] (by decide) rfl rfl rfl ⟨rfl, rfl⟩
  rw [decide_eq_true h0]
  have hx : nxt s = (⟨s.num + 1, s.h0, s.h1, s.pays, s.holds⟩, 0) := by simp only [nxt, if_pos h0]
  obtain ⟨hr', hpl', hhl, htot⟩ := mayS_t h0.1
  have hpw := payL_pw hpl'
  have hadd : addP s p = if ¬ (p.fr = 0 ∨ p.fr = 1) then (zSta, 33) else if p.am < 10 then (zSta, 27) else if mayP p = false then (zSta, 1)
      else if fndI (s.pays.map (·.id)) p.id = true then (zSta, 9) else if 8 ≤ s.pays.length + s.holds.length then (zSta, 30) else if sideS s p.fr < p.am then (zSta, 20)
      else (⟨s.num + 1, if p.fr = 0 then s.h0 - p.am else s.h0, if p.fr = 0 then s.h1 else s.h1 - p.am, insP s.pays p, s.holds⟩, 0) := by
    simp only [addP, hx]
    rw [if_neg (by simp)]
  by_cases hb' : p.fr = 0 ∨ p.fr = 1
  rotate_left
  · rw [hadd, if_pos hb']
    have b0 : ¬ p.fr = 0 := fun e => hb' (.inl e)
    have b1 : ¬ p.fr = 1 := fun e => hb' (.inr e)
    simp [pc0, pc1, pc2, pd1, pd2, pe0, pe1, pe2, hpt, hpl, b0, b1, RE, staC, zSta]
    refine finW _ (weak_nlB (o := 32) (k := 3) 36 rfl rfl) (finW _ (weak_nlB (o := 32) (k := 4) 3 rfl rfl) ?_)
    exact fin [] (by decide) rfl rfl rfl ⟨rfl, rfl⟩
  rw [hadd, if_neg (by simp [hb'])]
  have hsd : ∃ sd : Int, sideS s p.fr = sd ∧ 0 ≤ sd ∧ sd ≤ 1125899906842624 := ⟨_, rfl, by unfold sideS; split <;> omega⟩
  obtain ⟨W, hW⟩ : ∃ W : EV, W = I .i64 p.fr := ⟨_, rfl⟩
  obtain ⟨wh, hwh⟩ : ∃ w : Int, w = p.fr := ⟨_, rfl⟩
  obtain ⟨ids, hids⟩ : ∃ ids, s.pays.map (·.id) = ids := ⟨_, rfl⟩
  have idl : ids.length = s.pays.length := by rw [← hids]; simp
  have hget : ∀ (k : Nat) (p : Pay), s.pays[k]? = some p → ids[k]? = some p.id := fun k p h => by rw [← hids, List.getElem?_map, h]; rfl
  obtain ⟨A, hA⟩ : ∃ A : Int, A = if p.fr = 0 then -p.am else 0 := ⟨_, rfl⟩
  obtain ⟨B, hB⟩ : ∃ B : Int, B = if p.fr = 0 then 0 else -p.am := ⟨_, rfl⟩
  rcases hb' with hfr | hfr
  all_goals
    simp [hfr] at hA hB
    simp [pc0, pc1, pc2, pd1, pd2, pe0, pe1, pe2, hpt, hpl, hfr, -errV_0]
    refine alt (fun c1 => ?_) (fun c1 => ?_)
    · rw [if_pos c1]
      simp [pc0, pc1, pc2, pd1, pd2, pe0, pe1, pe2, hpt, hpl, hfr, RE, staC, zSta]
      refine finW _ (weak_nlB (o := 32) (k := 3) 36 rfl rfl) (finW _ (weak_nlB (o := 32) (k := 4) 3 rfl rfl) ?_)
      exact fin [] (by decide) rfl rfl rfl ⟨rfl, rfl⟩
    rw [if_neg c1]
    simp [pc0, pc1, pc2, pd1, pd2, pe0, pe1, pe2, hpt, hpl, hfr, -errV_0]
    refine call0 (RpayMay_ok p p5) (by simp [hpt]) ?_
    rintro y H' ⟨rfl, rfl⟩
    refine ⟨.inl (by simp [-List.flatMap_eq_nil_iff]), le_ok rfl, ?_⟩
    cases hm : mayP p
    · simp [pc0, pc1, pc2, pd1, pd2, pe0, pe1, pe2, hpt, hpl, hfr, RE, staC, zSta]
      refine finW _ (weak_nlB (o := 32) (k := 3) 36 rfl rfl) (finW _ (weak_nlB (o := 32) (k := 4) 3 rfl rfl) ?_)
      exact fin [] (by decide) rfl rfl rfl ⟨rfl, rfl⟩
    simp [pc0, pc1, pc2, pd1, pd2, pe0, pe1, pe2, hpt, hpl, hfr, -errV_0]
    refine call0 (RpayAt_ok s.pays p.id ok4 ok6) (by simp [PL, I]) ?_
    rintro y H' ⟨rfl, r, hr, rfl⟩
    refine ⟨.inl (by simp), le_ok rfl, ?_⟩
    rcases FI_pos hpw hr with ⟨hf, rfl⟩ | ⟨hf, rfl⟩
    rotate_left
    · rw [hf]
      simp [pc0, pc1, pc2, pd1, pd2, pe0, pe1, pe2, hpt, hpl, hfr, I, RE, staC, zSta]
      refine finW _ (weak_nlB (o := 32) (k := 3) 36 rfl rfl) (finW _ (weak_nlB (o := 32) (k := 4) 3 rfl rfl) ?_)
      exact fin [] (by decide) rfl rfl rfl ⟨rfl, rfl⟩
    rw [hf]
    have wl : IntKind.i64.wrap ((s.pays.length : Int) + (s.holds.length : Int)) = ((s.pays.length + s.holds.length : Nat) : Int) := by rw [wrap_i64 (by omega) (by omega)]; omega
    simp [pc0, pc1, pc2, pd1, pd2, pe0, pe1, pe2, hpt, hpl, hfr, I, wl, -errV_0, -Int.natCast_add]
    refine alt (fun c2 => ?_) (fun c2 => ?_)
    · rw [if_pos (by omega)]
      simp [pc0, pc1, pc2, pd1, pd2, pe0, pe1, pe2, hpt, hpl, hfr, RE, staC, zSta]
      refine finW _ (weak_nlB (o := 32) (k := 3) 36 rfl rfl) (finW _ (weak_nlB (o := 32) (k := 4) 3 rfl rfl) ?_)
      exact fin [] (by decide) rfl rfl rfl ⟨rfl, rfl⟩
    rw [if_neg (by omega)]
    simp [pc0, pc1, pc2, pd1, pd2, pe0, pe1, pe2, hpt, hpl, hfr, -errV_0]
    refine alt (fun c3 => ?_) (fun c3 => ?_)
    · rw [if_pos (by simpa [sideS, hfr] using c3)]
      simp [pc0, pc1, pc2, pd1, pd2, pe0, pe1, pe2, hpt, hpl, hfr, RE, staC, zSta]
      refine finW _ (weak_nlB (o := 32) (k := 3) 36 rfl rfl) (finW _ (weak_nlB (o := 32) (k := 4) 3 rfl rfl) ?_)
      exact fin [] (by decide) rfl rfl rfl ⟨rfl, rfl⟩
    rw [if_neg (by simpa [sideS, hfr] using c3)]
    simp [pc0, pc1, pc2, pd1, pd2, pe0, pe1, pe2, hpt, hpl, hfr, -errV_0]
    refine eloop (α := Nat) (fun i => i ≤ s.pays.length ∧ ∀ (k : Nat) (y : Int), k < i → ids[k]? = some y → y < p.id) (fun i => s.pays.length - i)
      (fun i => [.any, .any, Ptr 0, Ptr 1, Ptr 2, .any, EV.lit (.slice none 0 0), I .i64 i, .any, .any, .any, .any, .any, .any, .any, .any, .any, .any, .any, .any, .any, .any, .any, .any, .any, .any, .any, .any, .any, .any, .any, .any, .any, .any, .any, .any, .any, .any, .any, .any, .any, .any, .any, .any, .any, .any, .any, .any, .any, .any, .any, .any, .any, .any, .any, .any, .any, .any, .any, .any, .any, .any, .any, .any, .any, .any, .any, .any, .any, .any, .any, .any, .any, .any, .any, .any, .any, .any, .any, .any, .any, .any, .any, .any, .any, .any, .any, .any, .any, .any, .any, .any, .any, .any, .any, .any, .any, .any, .any, .any, .any, .any, .any, .any, .any, .any, .any, .any, .any, .any, .any]) (fun _ => [some (.box 26 (staC s)), some (.box 30 (payC p)), some (.box 26 [.fz (.lit (.int .i64 0)), .fz (.lit (.int .i64 0)), .fz (.lit (.int .i64 0)), .fz (.lit (.slice none 0 0)), .fz (.lit (.slice none 0 0))])]) 0 [0, 16, 32]
      ⟨Nat.zero_le _, fun k y hk => absurd hk (Nat.not_lt_zero k)⟩ (by simp [I, Ptr]) (by simp [staC, zSta, hpl]) (by simp) (by simp) (by simp) ?_
    rintro i ⟨hi, hlo⟩
    simp [pc0, pc1, pc2, pd1, pd2, pe0, pe1, pe2, hpt, hpl, hfr, I, Ptr, staC, zSta]
    have hn0 : ¬ ((i : Int) < 0) := by omega
    have wn : IntKind.i64.wrap (-p.am) = -p.am := wrap_i64 (by omega) (by omega)
    have w2 : IntKind.i64.wrap (s.h0 + A) = s.h0 + A := wrap_i64 (by omega) (by omega)
    have w3 : IntKind.i64.wrap (s.h1 + B) = s.h1 + B := wrap_i64 (by omega) (by omega)
    have w5 : IntKind.i64.wrap (s.num + 1) = s.num + 1 := wrap_i64 (by omega) (by omega)
    have tpv : List.take s.pays.length (payv s.pays) = payv s.pays := List.take_of_length_le (by simp)
    refine alt (fun hlt => ?_) (fun hlt => ?_)
    · have hln : i < s.pays.length := by omega
      obtain ⟨g, hc⟩ : ∃ p, s.pays[i]? = some p := ⟨s.pays[i], by simp [hln]⟩
      have hgo := ok4 g (List.mem_of_getElem? hc)
      have hgl := payF_len hgo.2.2.2.2
      have hge : (payv s.pays)[i]'(by simp [hln]) = payF g := by
        have e := payv_get hc
        rw [List.getElem?_eq_getElem (by simp [hln])] at e
        exact Option.some.inj e
      have w4 : IntKind.i64.wrap ((i : Int) + 1) = ((i + 1 : Nat) : Int) := wrap_i64 (by omega) (by omega)
      simp [pc0, pc1, pc2, pd1, pd2, pe0, pe1, pe2, hpt, hpl, hln, hge, payF, -errV_0]
      refine alt (fun he => ?_) (fun he => ?_)
      · simp [pc0, pc1, pc2, pd1, pd2, pe0, pe1, pe2, hpt, hpl, w4, -errV_0, -Int.natCast_add]
        refine round (i + 1) [0, 1, 2] ⟨by omega, ?_⟩ (by omega) (by simp) (by simp) (by simp) (by simp) (by simp)
        intro k y hk hy
        rcases Nat.lt_or_ge k i with h1 | h1
        · exact hlo k y h1 hy
        · obtain rfl : k = i := by omega
          rw [hget k g hc] at hy
          obtain rfl := Option.some.inj hy
          exact he
      · have hpos : posI (s.pays.map (·.id)) p.id = i := by
          rw [hids]
          exact posI_eq (by omega) hlo fun y hy => by
            rw [hget i g hc] at hy
            obtain rfl := Option.some.inj hy
            omega
        have hpv := payv_ins s.pays p
        rw [hpos] at hpv
        have hpl1 : (insP s.pays p).length = s.pays.length + 1 := len_ins Pay.id s.pays p
        obtain ⟨L, hL⟩ : ∃ L, insP s.pays p = L := ⟨_, rfl⟩
        rw [hL] at hpv hpl1 ⊢
        have hlen : i + 1 + (s.pays.length - i) = L.length := by omega
        simp [pc0, pc1, pc2, pd1, pd2, pe0, pe1, pe2, hpt, hpl, hfr, hfl, hlt, hn0, hi, tpv, hlen, wn, ← hpv, -errV_0]
        refine ⟨by omega, by omega, by omega, ?_⟩
        refine call0 (Rto_ok wh (-p.am)) (by simp [I, hwh, hfr]) ?_
        rintro y H' ⟨rfl, rfl⟩
        refine ⟨.inl (by simp), le_ok rfl, ?_⟩
        simp [pc0, pc1, pc2, pd1, pd2, pe0, pe1, pe2, hpt, hpl, hfr, -errV_0]
        refine callH [467] (RwithP_ok s A B w5 w2 w3 L s.holds) (by simp [SV, staC, HL, I, hA, hB, hwh, hfr]) (by simp) (by simp) (by simp) (by simp) ?_
        rintro y H' ⟨rfl, rfl⟩
        refine ⟨.inl (by simp), by simp, ?_⟩
        simp [pc0, pc1, pc2, pd1, pd2, pe0, pe1, pe2, hpt, hpl, hfr, -errV_0]
        refine finW _ (weak_frz (o := 467) (ty := 30) (es := 36) (xs := payv L) rfl) ?_
        exact fin [] (by decide) rfl rfl rfl ⟨rfl, by simp [RE, staC, hA, hB, hfr, List.take_of_length_le, Int.sub_eq_add_neg, -errV_0]⟩
    · have hpos : posI (s.pays.map (·.id)) p.id = i := by
        rw [hids]
        exact posI_eq (by omega) hlo fun y hy => absurd (lt_len hy) (by omega)
      have hpv := payv_ins s.pays p
      rw [hpos] at hpv
      have hpl1 : (insP s.pays p).length = s.pays.length + 1 := len_ins Pay.id s.pays p
      obtain ⟨L, hL⟩ : ∃ L, insP s.pays p = L := ⟨_, rfl⟩
      rw [hL] at hpv hpl1 ⊢
      have hlen : i + 1 + (s.pays.length - i) = L.length := by omega
      simp [pc0, pc1, pc2, pd1, pd2, pe0, pe1, pe2, hpt, hpl, hfr, hfl, hlt, hn0, hi, tpv, hlen, wn, ← hpv, -errV_0]
      refine ⟨by omega, by omega, by omega, ?_⟩
      refine call0 (Rto_ok wh (-p.am)) (by simp [I, hwh, hfr]) ?_
      rintro y H' ⟨rfl, rfl⟩
      refine ⟨.inl (by simp), le_ok rfl, ?_⟩
      simp [pc0, pc1, pc2, pd1, pd2, pe0, pe1, pe2, hpt, hpl, hfr, -errV_0]
      refine callH [467] (RwithP_ok s A B w5 w2 w3 L s.holds) (by simp [SV, staC, HL, I, hA, hB, hwh, hfr]) (by simp) (by simp) (by simp) (by simp) ?_
      rintro y H' ⟨rfl, rfl⟩
      refine ⟨.inl (by simp), by simp, ?_⟩
      simp [pc0, pc1, pc2, pd1, pd2, pe0, pe1, pe2, hpt, hpl, hfr, -errV_0]
      refine finW _ (weak_frz (o := 467) (ty := 30) (es := 36) (xs := payv L) rfl) ?_
      exact fin [] (by decide) rfl rfl rfl ⟨rfl, by simp [RE, staC, hA, hB, hfr, List.take_of_length_le, Int.sub_eq_add_neg, -errV_0]⟩

end Go.Proofs.YtpilpjameifcfaaGreatDoor

namespace Go.Proofs.YtpilpjameifcfaaGreatDoor
open Go Go.EW
set_option linter.unusedSimpArgs false
set_option linter.unusedVariables false

@[simp] def l_Rdrop_1 (_ : Unit) : List EOp := [⟨0, (some 4), none, (.q (.mov (.k (.slice none 0 0)))), []⟩]
@[simp] def b_Rdrop_2 (_ : Unit) : EB := reg0 (hid l_Rdrop_1) 1
@[simp] def l_Rdrop_3 (_ : Unit) : List EOp := [⟨0, (some 5), none, (.q (.mov (.k (.slice none 0 0)))), []⟩]
@[simp] def b_Rdrop_4 (_ : Unit) : EB := reg0 (hid l_Rdrop_3) 1
@[simp] def l_Rdrop_6 (_ : Unit) : List EOp := [⟨7, (some 13), none, (.q (.bin .add (.t 12) (.k (.int .i64 1)))), []⟩, ⟨8, (some 14), none, (.q (.ssl 36 (.t 11) (some (.t 13)) none)), []⟩, ⟨4, (some 10), none, (.app 30 36 64 (.t 6) (.t 9)), [5, 6, 7, 8]⟩, ⟨9, (some 15), none, (.app 30 36 64 (.t 10) (.t 14)), []⟩, ⟨10, (some 4), none, (.q (.mov (.t 15))), []⟩]
@[simp] def l_Rdrop_5 (_ : Unit) : List EOp := ⟨0, (some 6), none, (.q (.mov (.t 5))), []⟩ :: ⟨1, (some 7), none, (.q (.mov (.t 0))), []⟩ :: ⟨2, (some 8), none, (.q (.mov (.t 1))), []⟩ :: ⟨3, (some 9), none, (.q (.ssl 36 (.t 7) none (some (.t 8)))), []⟩ :: ⟨5, (some 11), none, (.q (.mov (.t 0))), []⟩ :: ⟨6, (some 12), none, (.q (.mov (.t 1))), []⟩ :: hid l_Rdrop_6
@[simp] def b_Rdrop_7 (_ : Unit) : EB := reg1 (hid l_Rdrop_5) 11
@[simp] def b_Rdrop_8 (_ : Unit) : EB := .seq (hid b_Rdrop_7) .ret
@[simp] def b_Rdrop_9 (_ : Unit) : EB := .seq (hid b_Rdrop_4) (hid b_Rdrop_8)
@[simp] def b_Rdrop_10 (_ : Unit) : EB := .seq (hid b_Rdrop_2) (hid b_Rdrop_9)
def c_Rdrop : EB × List QOp × Nat := ((hid b_Rdrop_10), [(.mov (.t 4))], 16)
theorem k_Rdrop : cfun Tryz.prog 76 = some c_Rdrop := by kernel_rfl

@[simp] def l_RFail_1 (_ : Unit) : List EOp := [⟨0, (some 2), none, (.q (.box 26 (.t 0))), []⟩, ⟨1, (some 4), none, (.q (.alloc 26 [(.int .i64 0), (.int .i64 0), (.int .i64 0), (.slice none 0 0), (.slice none 0 0)])), []⟩, ⟨2, (some 5), none, (.q (.mov (.k (.int .i64 0)))), []⟩]
@[simp] def b_RFail_2 (_ : Unit) : EB := reg0 (hid l_RFail_1) 3
@[simp] def l_RFail_3 (_ : Unit) : List EOp := [⟨0, (some 9), none, (.q (.fad 3 (.t 2))), []⟩, ⟨1, (some 10), none, (.q (.ldc (.t 9))), []⟩, ⟨2, (some 11), none, (.q (.mov (.t 1))), []⟩, ⟨3, (some 12), none, (.call 73 [(.t 10), (.t 11)]), []⟩, ⟨4, (some 6), none, (.q (.mov (.t 12))), []⟩]
@[simp] def b_RFail_4 (_ : Unit) : EB := reg0 (hid l_RFail_3) 5
@[simp] def l_RFail_5 (_ : Unit) : List EOp := [⟨0, (some 14), none, (.q (.lda 5 (.t 2))), []⟩, ⟨1, (some 15), none, (.call 71 [(.t 14)]), []⟩, ⟨2, (some 16), none, (.q (.un .not (.t 15))), []⟩, ⟨3, (some 13), none, (.q (.mov (.t 16))), []⟩]
@[simp] def b_RFail_6 (_ : Unit) : EB := reg0 (hid l_RFail_5) 4
@[simp] def l_RFail_7 (_ : Unit) : List EOp := [⟨0, (some 17), none, (.q (.build [(.int .i64 0), (.int .i64 0), (.int .i64 0), (.slice none 0 0), (.slice none 0 0)] [])), []⟩, ⟨1, none, none, (.fz (.sto 5 (.t 4) (.t 17))), []⟩, ⟨2, (some 5), none, (.q (.mov (.k (.int .i64 1)))), []⟩]
@[simp] def b_RFail_8 (_ : Unit) : EB := reg0 (hid l_RFail_7) 3
@[simp] def b_RFail_9 (_ : Unit) : EB := .seq (hid b_RFail_8) .ret
@[simp] def l_RFail_10 (_ : Unit) : List EOp := [⟨0, (some 19), none, (.q (.mov (.t 6))), []⟩, ⟨1, (some 20), none, (.q (.bin .lss (.t 19) (.k (.int .i64 0)))), []⟩, ⟨2, (some 18), none, (.q (.mov (.t 20))), []⟩]
@[simp] def b_RFail_11 (_ : Unit) : EB := reg0 (hid l_RFail_10) 3
@[simp] def l_RFail_12 (_ : Unit) : List EOp := [⟨0, (some 21), none, (.q (.build [(.int .i64 0), (.int .i64 0), (.int .i64 0), (.slice none 0 0), (.slice none 0 0)] [])), []⟩, ⟨1, none, none, (.fz (.sto 5 (.t 4) (.t 21))), []⟩, ⟨2, (some 5), none, (.q (.mov (.k (.int .i64 8)))), []⟩]
@[simp] def b_RFail_13 (_ : Unit) : EB := reg0 (hid l_RFail_12) 3
@[simp] def b_RFail_14 (_ : Unit) : EB := .seq (hid b_RFail_13) .ret
@[simp] def b_RFail_15 (_ : Unit) : EB := .cond (.t 18) (hid b_RFail_14) .skip
@[simp] def b_RFail_16 (_ : Unit) : EB := .seq (hid b_RFail_11) (hid b_RFail_15)
@[simp] def b_RFail_17 (_ : Unit) : EB := .cond (.t 13) (hid b_RFail_9) (hid b_RFail_16)
@[simp] def b_RFail_18 (_ : Unit) : EB := .seq (hid b_RFail_6) (hid b_RFail_17)
@[simp] def b_RFail_19 (_ : Unit) : EB := .block 0 (hid b_RFail_18)
@[simp] def l_RFail_22 (_ : Unit) : List EOp := [⟨12, (some 35), none, (.call 74 [(.t 28), (.t 34)]), []⟩, ⟨13, (some 22), none, (.q (.mov (.t 35))), []⟩, ⟨14, (some 36), none, (.q (.ext 0 (.t 22))), []⟩, ⟨15, (some 37), none, (.q (.ext 1 (.t 22))), []⟩, ⟨16, (some 7), none, (.q (.mov (.t 36))), []⟩, ⟨17, (some 8), none, (.q (.mov (.t 37))), []⟩]
@[simp] def l_RFail_21 (_ : Unit) : List EOp := ⟨6, (some 29), none, (.q (.fad 3 (.t 2))), []⟩ :: ⟨7, (some 30), none, (.q (.ldc (.t 29))), []⟩ :: ⟨8, (some 31), none, (.q (.mov (.t 6))), []⟩ :: ⟨9, (some 32), none, (.q (.isl 36 (.t 30) (.t 31))), []⟩ :: ⟨10, (some 33), none, (.q (.fad 2 (.t 32))), []⟩ :: ⟨11, (some 34), none, (.q (.ldc (.t 33))), []⟩ :: hid l_RFail_22
@[simp] def l_RFail_20 (_ : Unit) : List EOp := ⟨0, (some 23), none, (.q (.fad 3 (.t 2))), []⟩ :: ⟨1, (some 24), none, (.q (.ldc (.t 23))), []⟩ :: ⟨2, (some 25), none, (.q (.mov (.t 6))), []⟩ :: ⟨3, (some 26), none, (.q (.isl 36 (.t 24) (.t 25))), []⟩ :: ⟨4, (some 27), none, (.q (.fad 1 (.t 26))), []⟩ :: ⟨5, (some 28), none, (.q (.ldc (.t 27))), []⟩ :: hid l_RFail_21
@[simp] def b_RFail_23 (_ : Unit) : EB := reg0 (hid l_RFail_20) 18
@[simp] def l_RFail_25 (_ : Unit) : List EOp := [⟨7, (some 45), none, (.q (.fad 4 (.t 2))), []⟩, ⟨8, (some 46), none, (.q (.ldc (.t 45))), []⟩, ⟨6, (some 44), none, (.call 76 [(.t 42), (.t 43)]), [0, 1, 2, 7, 8]⟩, ⟨9, (some 47), none, (.call 72 [(.t 38), (.t 39), (.t 40), (.t 44), (.t 46)]), []⟩, ⟨10, none, none, (.fz (.sto 5 (.t 4) (.t 47))), []⟩, ⟨11, (some 5), none, (.q (.mov (.k (.int .i64 0)))), []⟩]
@[simp] def l_RFail_24 (_ : Unit) : List EOp := ⟨0, (some 38), none, (.q (.lda 5 (.t 2))), []⟩ :: ⟨1, (some 39), none, (.q (.mov (.t 7))), []⟩ :: ⟨2, (some 40), none, (.q (.mov (.t 8))), []⟩ :: ⟨3, (some 41), none, (.q (.fad 3 (.t 2))), []⟩ :: ⟨4, (some 42), none, (.q (.ldc (.t 41))), []⟩ :: ⟨5, (some 43), none, (.q (.mov (.t 6))), []⟩ :: hid l_RFail_25
@[simp] def b_RFail_26 (_ : Unit) : EB := reg1 (hid l_RFail_24) 12
@[simp] def b_RFail_27 (_ : Unit) : EB := .seq (hid b_RFail_26) .ret
@[simp] def b_RFail_28 (_ : Unit) : EB := .seq (hid b_RFail_23) (hid b_RFail_27)
@[simp] def b_RFail_29 (_ : Unit) : EB := .seq (hid b_RFail_19) (hid b_RFail_28)
@[simp] def b_RFail_30 (_ : Unit) : EB := .seq (hid b_RFail_4) (hid b_RFail_29)
@[simp] def b_RFail_31 (_ : Unit) : EB := .seq (hid b_RFail_2) (hid b_RFail_30)
def c_RFail : EB × List QOp × Nat := ((hid b_RFail_31), [(.lda 5 (.t 4)), (.mov (.t 5))], 48)
theorem k_RFail : cfun Tryz.prog 33 = some c_RFail := by kernel_rfl


set_option maxHeartbeats 1000000 in
theorem Rdrop_ok (l : List Pay) (i : Nat) (hi : i < l.length) (hn : l.length ≤ 100000000) : ECalls Tryz.prog 76 [PL l, I .i64 i] [] fun y H' => H' = [some (.row 30 36 ((payv l).take i ++ (payv l).drop (i + 1)))] ∧ y = .v (.c (.row 0 (l.length - 1))) := by
  have w1 : IntKind.i64.wrap ((i : Int) + 1) = ((i + 1 : Nat) : Int) := wrap_i64 (by omega) (by omega)
  have hn0 : ¬ ((i : Int) < 0) := by omega
  have tpv : List.take l.length (payv l) = payv l := List.take_of_length_le (by simp)
  have hlen : min i l.length + (l.length - (i + 1)) = l.length - 1 := by omega
  refine ecalls k_Rdrop ?_
  simp [c_Rdrop, PL, I, hi, hn0, w1, tpv, hlen, -Int.natCast_add]
  exact ⟨by omega, by omega, by omega, by omega, fin [176] (by decide) rfl rfl rfl ⟨rfl, rfl⟩⟩

set_option maxHeartbeats 4000000 in
theorem RFail_ok (s : Sta) (x : Int) (hs : s.ok) (hx64 : i64 x) : ECalls Tryz.prog 33 [SV s, I .i64 x] [] fun y H' => H' = [] ∧ y = RE (falS s x) := by
  obtain ⟨ok1, ok2, ok3, ok4, ok5, ok6, ok7⟩ := id hs
  refine ecalls k_RFail ?_
  simp [c_RFail, SV, staC, I, -errV_0]
  refine call0 (RpayAt_ok s.pays x ok4 ok6) (by simp [PL, I]) ?_
  rintro y H' ⟨rfl, r, hr, rfl⟩
  refine ⟨.inl (by simp), le_ok rfl, ?_⟩
  simp [I, -errV_0]
  refine call0 (Rright_ok s hs) (by simp [SV, staC]) ?_
  rintro y H' ⟨rfl, rfl⟩
  refine ⟨.inl (by simp), le_ok rfl, ?_⟩
  by_cases h0 : mayS s = true ∧ s.num ≠ 1099511627776
  rotate_left
  · have hx : nxt s = (zSta, 1) := by simp only [nxt, if_neg h0]
    have ha : falS s x = (zSta, 1) := by simp [falS, takS, hx]
    rw [ha, decide_eq_false h0]
    simp [RE, staC, zSta]
    refine finW _ (weak_nlB (o := 16) (k := 3) 36 rfl rfl) (finW _ (weak_nlB (o := 16) (k := 4) 3 rfl rfl) ?_)
    exact fin [] (by decide) rfl rfl rfl ⟨rfl, rfl⟩
  rw [decide_eq_true h0]
  have hx : nxt s = (⟨s.num + 1, s.h0, s.h1, s.pays, s.holds⟩, 0) := by simp only [nxt, if_pos h0]
  obtain ⟨hr', hpl', hhl, htot⟩ := mayS_t h0.1
  have hpw := payL_pw hpl'
  rcases FI_pos hpw hr with ⟨hf, rfl⟩ | ⟨hf, rfl⟩
  · have ht : takS s x = (zSta, zPay, 8) := by simp only [takS, hx]; rw [if_neg (by simp), if_pos hf]
    have ha : falS s x = (zSta, 8) := by simp [falS, ht]
    rw [ha]
    simp [RE, staC, zSta]
    refine finW _ (weak_nlB (o := 16) (k := 3) 36 rfl rfl) (finW _ (weak_nlB (o := 16) (k := 4) 3 rfl rfl) ?_)
    exact fin [] (by decide) rfl rfl rfl ⟨rfl, rfl⟩
  obtain ⟨p, hc, hid⟩ := fnd_get (f := Pay.id) hf
  have hc' : s.pays[posI (s.pays.map (·.id)) x]? = some p := hc
  have ht : takS s x = (⟨s.num + 1, s.h0, s.h1, delP s.pays x, s.holds⟩, p, 0) := by
    simp only [takS, hx]; rw [if_neg (by simp), if_neg (by rw [hf]; simp), hc']; rfl
  have hfr : falS s x = (⟨s.num + 1, if p.fr = 0 then s.h0 + p.am else s.h0, if p.fr = 0 then s.h1 else s.h1 + p.am, delP s.pays x, s.holds⟩, 0) := by
    simp only [falS, ht]; rw [if_neg (by simp)]
  have hpv0 := payv_del s.pays x
  have hpl1 : (delP s.pays x).length = s.pays.length - 1 := by rw [delP_eq]; exact len_del (f := Pay.id) hc
  have hmem := List.mem_of_getElem? hc
  obtain ⟨pos, hpos⟩ : ∃ pos, posI (s.pays.map (·.id)) x = pos := ⟨_, rfl⟩
  rw [hpos] at hc' hpv0 ⊢
  have hlt : pos < s.pays.length := lt_len hc'
  have hge : (payv s.pays)[pos]'(by simp [hlt]) = payF p := by
    have e := payv_get hc'
    rw [List.getElem?_eq_getElem (by simp [hlt])] at e
    exact Option.some.inj e
  have hpo := ok4 p hmem
  have hfl := payF_len hpo.2.2.2.2
  have hle := payL_sum hpl' p hmem
  have hma := mayP_pos (payL_mem hpl' p hmem)
  have hnn := sumH_nn hhl
  have hto : total s = s.h0 + s.h1 + sumP s.pays + sumH s.holds := rfl
  rw [hfr]
  have hn0 : ¬ ((pos : Int) < 0) := by omega
  simp [hn0, hlt, hge, hfl, payF, -errV_0]
  obtain ⟨A, hA⟩ : ∃ A : Int, (if p.fr = 0 then p.am else 0) = A := ⟨_, rfl⟩
  obtain ⟨B, hB⟩ : ∃ B : Int, (if p.fr = 0 then 0 else p.am) = B := ⟨_, rfl⟩
  have hAB : 0 ≤ A ∧ 0 ≤ B ∧ A + B = p.am := by rw [← hA, ← hB]; split <;> omega
  have w2 : IntKind.i64.wrap (s.h0 + A) = s.h0 + A := wrap_i64 (by omega) (by omega)
  have w4 : IntKind.i64.wrap (s.h1 + B) = s.h1 + B := wrap_i64 (by omega) (by omega)
  have w5 : IntKind.i64.wrap (s.num + 1) = s.num + 1 := wrap_i64 (by omega) (by omega)
  refine call0 (Rto_ok p.fr p.am) (by simp [I]) ?_
  rintro y H' ⟨rfl, rfl⟩
  refine ⟨.inl (by simp), le_ok rfl, ?_⟩
  rw [hA, hB]
  simp [-errV_0]
  have hd := Rdrop_ok s.pays pos hlt ok6
  rw [← hpv0, ← hpl1] at hd
  refine call0 hd (by simp [PL, I]) ?_
  rintro y H' ⟨rfl, rfl⟩
  refine ⟨.inl (by simp), by simp, ?_⟩
  simp [-errV_0]
  obtain ⟨L, hL⟩ : ∃ L, delP s.pays x = L := ⟨_, rfl⟩
  rw [hL]
  refine callH [624] (RwithP_ok s A B w5 w2 w4 L s.holds) (by simp [SV, staC, HL, I]) (by simp) (by simp) (by simp) (by simp) ?_
  rintro y H' ⟨rfl, rfl⟩
  refine ⟨.inl (by simp), by simp, ?_⟩
  simp [-errV_0]
  refine finW _ (weak_frz (o := 624) (ty := 30) (es := 36) (xs := payv L) rfl) ?_
  refine fin [] (by decide) rfl rfl rfl ⟨rfl, ?_⟩
  have e1 : (if p.fr = 0 then s.h0 + p.am else s.h0) = s.h0 + A := by rw [← hA]; split <;> omega
  have e2 : (if p.fr = 0 then s.h1 else s.h1 + p.am) = s.h1 + B := by rw [← hB]; split <;> omega
  rw [e1, e2]
  simp [RE, staC, List.take_of_length_le, -errV_0]

end Go.Proofs.YtpilpjameifcfaaGreatDoor
