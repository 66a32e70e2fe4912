import Derived.Test.YtpohjnhlhfbnaaaGreatDoorAll7
import Derived.Test.YtpohjnhlhfbnaaaGreatDoorAll8
import Derived.Test.YtpohjnhlhfbnaaaGreatDoorAll9
import Derived.Test.YtpohjnhlhfbnaaaGreatDoorAll5
import Derived.Test.YtpohjnhlhfbnaaaGreatDoorAll6
namespace Go.Proofs.YtpohjnhlhfbnaaaGreatDoor
open Go Go.EW
set_option linter.unusedSimpArgs false
set_option linter.unusedVariables false

@[simp] def l_longState_1 (_ : Unit) : List EOp := [⟨0, (some 1), none, (.q (.box 26 (.t 0))), []⟩, ⟨1, (some 2), none, (.q (.mov (.k (.bool false)))), []⟩]
@[simp] def b_longState_2 (_ : Unit) : EB := reg0 (hid l_longState_1) 2
@[simp] def l_longState_4 (_ : Unit) : List EOp := [⟨6, (some 11), none, (.q (.bin .add (.t 7) (.t 10))), []⟩, ⟨7, (some 3), none, (.q (.mov (.t 11))), []⟩]
@[simp] def l_longState_3 (_ : Unit) : List EOp := ⟨0, (some 5), none, (.q (.fad 3 (.t 1))), []⟩ :: ⟨1, (some 6), none, (.q (.ldc (.t 5))), []⟩ :: ⟨2, (some 7), none, (.q (.len (.t 6))), []⟩ :: ⟨3, (some 8), none, (.q (.fad 4 (.t 1))), []⟩ :: ⟨4, (some 9), none, (.q (.ldc (.t 8))), []⟩ :: ⟨5, (some 10), none, (.q (.len (.t 9))), []⟩ :: hid l_longState_4
@[simp] def b_longState_5 (_ : Unit) : EB := reg0 (hid l_longState_3) 8
@[simp] def l_longState_6 (_ : Unit) : List EOp := [⟨0, (some 12), none, (.q (.mov (.t 3))), []⟩, ⟨1, (some 13), none, (.q (.bin .gtr (.t 12) (.k (.int .i64 100)))), []⟩]
@[simp] def b_longState_7 (_ : Unit) : EB := reg0 (hid l_longState_6) 2
@[simp] def l_longState_8 (_ : Unit) : List EOp := [⟨0, (some 2), none, (.q (.mov (.k (.bool true)))), []⟩]
@[simp] def b_longState_9 (_ : Unit) : EB := reg0 (hid l_longState_8) 1
@[simp] def b_longState_10 (_ : Unit) : EB := .seq (hid b_longState_9) .ret
@[simp] def b_longState_11 (_ : Unit) : EB := .cond (.t 13) (hid b_longState_10) .skip
@[simp] def b_longState_12 (_ : Unit) : EB := .seq (hid b_longState_7) (hid b_longState_11)
@[simp] def l_longState_13 (_ : Unit) : List EOp := [⟨0, (some 4), none, (.q (.mov (.k (.int .i64 0)))), []⟩]
@[simp] def b_longState_14 (_ : Unit) : EB := reg0 (hid l_longState_13) 1
@[simp] def l_longState_15 (_ : Unit) : List EOp := [⟨0, (some 14), none, (.q (.mov (.t 4))), []⟩, ⟨1, (some 15), none, (.q (.fad 4 (.t 1))), []⟩, ⟨2, (some 16), none, (.q (.ldc (.t 15))), []⟩, ⟨3, (some 17), none, (.q (.len (.t 16))), []⟩, ⟨4, (some 18), none, (.q (.bin .lss (.t 14) (.t 17))), []⟩]
@[simp] def b_longState_16 (_ : Unit) : EB := reg0 (hid l_longState_15) 5
@[simp] def b_longState_17 (_ : Unit) : EB := .cond (.t 18) .skip (.exit 0)
@[simp] def b_longState_18 (_ : Unit) : EB := .seq (hid b_longState_16) (hid b_longState_17)
@[simp] def l_longState_20 (_ : Unit) : List EOp := [⟨6, (some 27), none, (.q (.ldc (.t 26))), []⟩, ⟨7, (some 28), none, (.q (.len (.t 27))), []⟩, ⟨8, (some 29), none, (.q (.bin .add (.t 21) (.t 28))), []⟩, ⟨9, (some 3), none, (.q (.mov (.t 29))), []⟩]
@[simp] def l_longState_19 (_ : Unit) : List EOp := ⟨0, (some 21), none, (.q (.mov (.t 3))), []⟩ :: ⟨1, (some 22), none, (.q (.fad 4 (.t 1))), []⟩ :: ⟨2, (some 23), none, (.q (.ldc (.t 22))), []⟩ :: ⟨3, (some 24), none, (.q (.mov (.t 4))), []⟩ :: ⟨4, (some 25), none, (.q (.isl 3 (.t 23) (.t 24))), []⟩ :: ⟨5, (some 26), none, (.q (.fad 2 (.t 25))), []⟩ :: hid l_longState_20
@[simp] def b_longState_21 (_ : Unit) : EB := reg0 (hid l_longState_19) 10
@[simp] def b_longState_22 (_ : Unit) : EB := .block 1 (hid b_longState_21)
@[simp] def l_longState_23 (_ : Unit) : List EOp := [⟨0, (some 19), none, (.q (.mov (.t 4))), []⟩, ⟨1, (some 20), none, (.q (.bin .add (.t 19) (.k (.int .i64 1)))), []⟩, ⟨2, (some 4), none, (.q (.mov (.t 20))), []⟩]
@[simp] def b_longState_24 (_ : Unit) : EB := reg0 (hid l_longState_23) 3
@[simp] def b_longState_25 (_ : Unit) : EB := .seq (hid b_longState_22) (hid b_longState_24)
@[simp] def b_longState_26 (_ : Unit) : EB := .seq (hid b_longState_18) (hid b_longState_25)
@[simp] def b_longState_27 (_ : Unit) : EB := .loop (hid b_longState_26)
@[simp] def b_longState_28 (_ : Unit) : EB := .block 0 (hid b_longState_27)
@[simp] def b_longState_29 (_ : Unit) : EB := .seq (hid b_longState_14) (hid b_longState_28)
@[simp] def l_longState_30 (_ : Unit) : List EOp := [⟨0, (some 30), none, (.q (.mov (.t 3))), []⟩, ⟨1, (some 31), none, (.q (.bin .gtr (.t 30) (.k (.int .i64 300)))), []⟩, ⟨2, (some 2), none, (.q (.mov (.t 31))), []⟩]
@[simp] def b_longState_31 (_ : Unit) : EB := reg0 (hid l_longState_30) 3
@[simp] def b_longState_32 (_ : Unit) : EB := .seq (hid b_longState_31) .ret
@[simp] def b_longState_33 (_ : Unit) : EB := .seq (hid b_longState_29) (hid b_longState_32)
@[simp] def b_longState_34 (_ : Unit) : EB := .seq (hid b_longState_12) (hid b_longState_33)
@[simp] def b_longState_35 (_ : Unit) : EB := .seq (hid b_longState_5) (hid b_longState_34)
@[simp] def b_longState_36 (_ : Unit) : EB := .seq (hid b_longState_2) (hid b_longState_35)
def c_longState : EB × List QOp × Nat := ((hid b_longState_36), [(.mov (.t 2))], 32)
theorem k_longState : cfun Tryz.prog 4 = some c_longState := by kernel_rfl


def sumK (l : List Hol) : Nat := (l.map (·.keys.length)).sum
theorem sumK_snoc (l : List Hol) (h : Hol) : sumK (l ++ [h]) = sumK l + h.keys.length := by simp [sumK]
theorem sumK_le : ∀ {l : List Hol}, (∀ h ∈ l, h.keys.length ≤ 100000000) → sumK l ≤ 100000000 * l.length
  | [], _ => by simp [sumK]
  | h :: r, q => by
    have h1 := q h (by simp)
    have h2 := sumK_le (l := r) (fun y hy => q y (by simp [hy]))
    simp [sumK] at *; omega
theorem sumK_mem : ∀ {l : List Hol} {h : Hol}, h ∈ l → h.keys.length ≤ sumK l
  | x :: r, h, q => by
    rcases List.mem_cons.1 q with rfl | q
    · simp [sumK]
    · have := sumK_mem q
      simp [sumK] at *; omega
/-- Has a state more than is gone through here? -/
def longS (s : Sta) : Bool := decide (100 < s.pays.length + s.holds.length ∨ 300 < s.pays.length + s.holds.length + sumK s.holds)
theorem longS_small {s : Sta} (h : longS s = false) : s.small ∧ s.pays.length ≤ 100 ∧ s.holds.length ≤ 100 ∧ ∀ h ∈ s.holds, h.keys.length ≤ 300 := by
  have h' := of_decide_eq_false h
  refine ⟨⟨by omega, by omega, fun x hx => ?_⟩, by omega, by omega, fun x hx => ?_⟩ <;>
  · have := sumK_mem hx
    omega

set_option maxHeartbeats 2000000 in
theorem longState_ok (s : Sta) (hs : s.ok) : ECalls Tryz.prog 4 [SV s] [] fun y H' => H' = [] ∧ y = .lit (.bool (longS s)) := by
  obtain ⟨ok1, ok2, ok3, ok4, ok5, ok6, ok7⟩ := id hs
  have w0 : IntKind.i64.wrap ((s.pays.length : Int) + (s.holds.length : Int)) = ((s.pays.length + s.holds.length : Nat) : Int) := by rw [wrap_i64 (by omega) (by omega)]; simp
  refine ecalls k_longState ?_
  simp [c_longState, SV, staC, w0, -Int.natCast_add]
  refine alt (fun hlt => ?_) (fun hlt => ?_)
  · simp
    have : longS s = true := by unfold longS; exact decide_eq_true (.inl (by omega))
    exact fin [] (by decide) rfl rfl rfl ⟨rfl, by simp [this]⟩
  simp [-Int.natCast_add]
  refine eloop (α := Nat) (fun i => i ≤ s.holds.length) (fun i => s.holds.length - i)
    (fun i => [.any, Ptr 0, .any, I .i64 ((s.pays.length + s.holds.length + sumK (s.holds.take i) : Nat) : Int), I .i64 i, .any, .any, .any, .any, .any, .any, .any, .any, .any, .any, .any, .any, .any, .any, .any, .any, .any, .any, .any, .any, .any, .any, .any, .any, .any, .any, .any]) (fun i => [some (.box 26 (staC s))]) 0 [0]
    (Nat.zero_le _) (by simp [Ptr, I, sumK]) (by simp [staC]) (by simp) (by simp) (by simp) ?_
  intro i hi
  have hlk := sumK_le (l := s.holds.take i) (fun h hh => (ok5 h (List.mem_of_mem_take hh)).2.2.2)
  have hlt' : (s.holds.take i).length = i := by simp; omega
  simp [Ptr, I, staC, -Int.natCast_add]
  refine alt (fun hlt => ?_) (fun hlt => ?_)
  · obtain ⟨p, hc⟩ : ∃ p, s.holds[i]? = some p := ⟨s.holds[i], by simp [hlt]⟩
    have hcb := holv_get hc
    have hk := (ok5 p (List.mem_of_getElem? hc)).2.2.2
    have hts : sumK (s.holds.take (i + 1)) = sumK (s.holds.take i) + p.keys.length := by rw [take_s hc, sumK_snoc]
    have w2 : IntKind.i64.wrap ((i : Int) + 1) = ((i + 1 : Nat) : Int) := wrap_i64 (by omega) (by omega)
    have w3 : IntKind.i64.wrap (((s.pays.length + s.holds.length + sumK (s.holds.take i) : Nat) : Int) + (p.keys.length : Int)) = ((s.pays.length + s.holds.length + sumK (s.holds.take (i + 1)) : Nat) : Int) := by
      rw [wrap_i64 (by omega) (by omega), hts]; simp; omega
    simp [hcb, holF, w2, w3, -Int.natCast_add]
    exact round (i + 1) [0] (by omega) (by omega) (by simp) (by simp) (by simp) (by simp) (by simp)
  have hil : i = s.holds.length := by omega
  subst hil
  rw [List.take_length] at *
  simp [-Int.natCast_add]
  exact fin [] (by decide) rfl rfl rfl ⟨rfl, by
    have : longS s = decide (300 < ((s.pays.length + s.holds.length + sumK s.holds : Nat) : Int)) := decide_eq_decide.2 (by omega)
    simp [this]⟩

end Go.Proofs.YtpohjnhlhfbnaaaGreatDoor

namespace Go.Proofs.YtpohjnhlhfbnaaaGreatDoor
open Go Go.EW
set_option linter.unusedSimpArgs false
set_option linter.unusedVariables false

@[simp] def l_giveState_1 (_ : Unit) : List EOp := [⟨0, (some 1), none, (.q (.box 26 (.t 0))), []⟩, ⟨1, (some 2), none, (.q (.alloc 33 [(.int .i64 0), (.int .i64 0), (.int .i64 0), (.slice none 0 0), (.slice none 0 0)])), []⟩]
@[simp] def b_giveState_2 (_ : Unit) : EB := reg0 (hid l_giveState_1) 2
@[simp] def l_giveState_4 (_ : Unit) : List EOp := [⟨6, none, none, (.fz (.sto 5 (.t 3) (.t 11))), []⟩]
@[simp] def l_giveState_3 (_ : Unit) : List EOp := ⟨0, (some 7), none, (.q (.fad 0 (.t 1))), []⟩ :: ⟨1, (some 8), none, (.q (.ldc (.t 7))), []⟩ :: ⟨2, (some 9), none, (.q (.fad 1 (.t 1))), []⟩ :: ⟨3, (some 10), none, (.q (.lda 2 (.t 9))), []⟩ :: ⟨4, (some 11), none, (.q (.build [(.int .i64 0), (.int .i64 0), (.int .i64 0), (.slice none 0 0), (.slice none 0 0)] [(0, 1, (.t 8)), (1, 2, (.t 10))])), []⟩ :: ⟨5, (some 3), none, (.q (.alloc 33 [(.int .i64 0), (.int .i64 0), (.int .i64 0), (.slice none 0 0), (.slice none 0 0)])), []⟩ :: hid l_giveState_4
@[simp] def b_giveState_5 (_ : Unit) : EB := reg0 (hid l_giveState_3) 7
@[simp] def l_giveState_6 (_ : Unit) : List EOp := [⟨0, (some 4), none, (.q (.mov (.k (.int .i64 0)))), []⟩]
@[simp] def b_giveState_7 (_ : Unit) : EB := reg0 (hid l_giveState_6) 1
@[simp] def l_giveState_8 (_ : Unit) : List EOp := [⟨0, (some 12), none, (.q (.mov (.t 4))), []⟩, ⟨1, (some 13), none, (.q (.fad 3 (.t 1))), []⟩, ⟨2, (some 14), none, (.q (.ldc (.t 13))), []⟩, ⟨3, (some 15), none, (.q (.len (.t 14))), []⟩, ⟨4, (some 16), none, (.q (.bin .lss (.t 12) (.t 15))), []⟩]
@[simp] def b_giveState_9 (_ : Unit) : EB := reg0 (hid l_giveState_8) 5
@[simp] def b_giveState_10 (_ : Unit) : EB := .cond (.t 16) .skip (.exit 0)
@[simp] def b_giveState_11 (_ : Unit) : EB := .seq (hid b_giveState_9) (hid b_giveState_10)
@[simp] def l_giveState_13 (_ : Unit) : List EOp := [⟨6, (some 25), none, (.q (.lda 36 (.t 24))), []⟩, ⟨7, (some 26), none, (.q (.bsl 36 (([(.int .i64 0), (.int .i64 0), (.int .i64 0), (.int .i64 0)] : List Value) ++ zU8) 1 [(0, (.t 25))])), []⟩, ⟨8, (some 27), none, (.app 65 36 64 (.t 20) (.t 26)), []⟩, ⟨9, (some 28), none, (.q (.fad 3 (.t 3))), []⟩, ⟨10, none, none, (.fz (.sto 1 (.t 28) (.t 27))), []⟩]
@[simp] def l_giveState_12 (_ : Unit) : List EOp := ⟨0, (some 19), none, (.q (.fad 3 (.t 3))), []⟩ :: ⟨1, (some 20), none, (.q (.ldc (.t 19))), []⟩ :: ⟨2, (some 21), none, (.q (.fad 3 (.t 1))), []⟩ :: ⟨3, (some 22), none, (.q (.ldc (.t 21))), []⟩ :: ⟨4, (some 23), none, (.q (.mov (.t 4))), []⟩ :: ⟨5, (some 24), none, (.q (.isl 36 (.t 22) (.t 23))), []⟩ :: hid l_giveState_13
@[simp] def b_giveState_14 (_ : Unit) : EB := reg0 (hid l_giveState_12) 11
@[simp] def b_giveState_15 (_ : Unit) : EB := .block 1 (hid b_giveState_14)
@[simp] def l_giveState_16 (_ : Unit) : List EOp := [⟨0, (some 17), none, (.q (.mov (.t 4))), []⟩, ⟨1, (some 18), none, (.q (.bin .add (.t 17) (.k (.int .i64 1)))), []⟩, ⟨2, (some 4), none, (.q (.mov (.t 18))), []⟩]
@[simp] def b_giveState_17 (_ : Unit) : EB := reg0 (hid l_giveState_16) 3
@[simp] def b_giveState_18 (_ : Unit) : EB := .seq (hid b_giveState_15) (hid b_giveState_17)
@[simp] def b_giveState_19 (_ : Unit) : EB := .seq (hid b_giveState_11) (hid b_giveState_18)
@[simp] def b_giveState_20 (_ : Unit) : EB := .loop (hid b_giveState_19)
@[simp] def b_giveState_21 (_ : Unit) : EB := .block 0 (hid b_giveState_20)
@[simp] def b_giveState_22 (_ : Unit) : EB := .seq (hid b_giveState_7) (hid b_giveState_21)
@[simp] def l_giveState_23 (_ : Unit) : List EOp := [⟨0, (some 5), none, (.q (.mov (.k (.int .i64 0)))), []⟩]
@[simp] def b_giveState_24 (_ : Unit) : EB := reg0 (hid l_giveState_23) 1
@[simp] def l_giveState_25 (_ : Unit) : List EOp := [⟨0, (some 29), none, (.q (.mov (.t 5))), []⟩, ⟨1, (some 30), none, (.q (.fad 4 (.t 1))), []⟩, ⟨2, (some 31), none, (.q (.ldc (.t 30))), []⟩, ⟨3, (some 32), none, (.q (.len (.t 31))), []⟩, ⟨4, (some 33), none, (.q (.bin .lss (.t 29) (.t 32))), []⟩]
@[simp] def b_giveState_26 (_ : Unit) : EB := reg0 (hid l_giveState_25) 5
@[simp] def b_giveState_27 (_ : Unit) : EB := .cond (.t 33) .skip (.exit 2)
@[simp] def b_giveState_28 (_ : Unit) : EB := .seq (hid b_giveState_26) (hid b_giveState_27)
@[simp] def l_giveState_29 (_ : Unit) : List EOp := [⟨0, (some 6), none, (.q (.mov (.k (.slice none 0 0)))), []⟩]
@[simp] def b_giveState_30 (_ : Unit) : EB := reg0 (hid l_giveState_29) 1
@[simp] def l_giveState_35 (_ : Unit) : List EOp := [⟨24, (some 60), none, (.app 66 3 40 (.t 37) (.t 59)), []⟩, ⟨25, (some 61), none, (.q (.fad 4 (.t 3))), []⟩, ⟨26, none, none, (.fz (.sto 1 (.t 61) (.t 60))), []⟩]
@[simp] def l_giveState_34 (_ : Unit) : List EOp := ⟨18, (some 54), none, (.q (.isl 3 (.t 52) (.t 53))), []⟩ :: ⟨19, (some 55), none, (.q (.fad 2 (.t 54))), []⟩ :: ⟨20, (some 56), none, (.q (.ldc (.t 55))), []⟩ :: ⟨21, (some 57), none, (.app 3 1 8 (.t 50) (.t 56)), [0, 1, 2, 3, 4, 5, 6, 7, 8, 9, 10, 11, 12, 13]⟩ :: ⟨22, (some 58), none, (.q (.build [(.int .i64 0), (.int .i64 0), (.slice none 0 0)] [(0, 1, (.t 43)), (1, 1, (.t 49)), (2, 1, (.t 57))])), []⟩ :: ⟨23, (some 59), none, (.fz (.q (.bsl 3 [(.int .i64 0), (.int .i64 0), (.slice none 0 0)] 1 [(0, (.t 58))]))), [0, 1]⟩ :: hid l_giveState_35
@[simp] def l_giveState_33 (_ : Unit) : List EOp := ⟨12, (some 48), none, (.q (.fad 1 (.t 47))), []⟩ :: ⟨13, (some 49), none, (.q (.ldc (.t 48))), []⟩ :: ⟨14, (some 50), none, (.q (.mov (.t 6))), []⟩ :: ⟨15, (some 51), none, (.q (.fad 4 (.t 1))), []⟩ :: ⟨16, (some 52), none, (.q (.ldc (.t 51))), []⟩ :: ⟨17, (some 53), none, (.q (.mov (.t 5))), []⟩ :: hid l_giveState_34
@[simp] def l_giveState_32 (_ : Unit) : List EOp := ⟨6, (some 42), none, (.q (.fad 0 (.t 41))), []⟩ :: ⟨7, (some 43), none, (.q (.ldc (.t 42))), []⟩ :: ⟨8, (some 44), none, (.q (.fad 4 (.t 1))), []⟩ :: ⟨9, (some 45), none, (.q (.ldc (.t 44))), []⟩ :: ⟨10, (some 46), none, (.q (.mov (.t 5))), []⟩ :: ⟨11, (some 47), none, (.q (.isl 3 (.t 45) (.t 46))), []⟩ :: hid l_giveState_33
@[simp] def l_giveState_31 (_ : Unit) : List EOp := ⟨0, (some 36), none, (.q (.fad 4 (.t 3))), []⟩ :: ⟨1, (some 37), none, (.q (.ldc (.t 36))), []⟩ :: ⟨2, (some 38), none, (.q (.fad 4 (.t 1))), []⟩ :: ⟨3, (some 39), none, (.q (.ldc (.t 38))), []⟩ :: ⟨4, (some 40), none, (.q (.mov (.t 5))), []⟩ :: ⟨5, (some 41), none, (.q (.isl 3 (.t 39) (.t 40))), []⟩ :: hid l_giveState_32
@[simp] def b_giveState_36 (_ : Unit) : EB := reg1 (hid l_giveState_31) 27
@[simp] def b_giveState_37 (_ : Unit) : EB := .seq (hid b_giveState_30) (hid b_giveState_36)
@[simp] def b_giveState_38 (_ : Unit) : EB := .block 3 (hid b_giveState_37)
@[simp] def l_giveState_39 (_ : Unit) : List EOp := [⟨0, (some 34), none, (.q (.mov (.t 5))), []⟩, ⟨1, (some 35), none, (.q (.bin .add (.t 34) (.k (.int .i64 1)))), []⟩, ⟨2, (some 5), none, (.q (.mov (.t 35))), []⟩]
@[simp] def b_giveState_40 (_ : Unit) : EB := reg0 (hid l_giveState_39) 3
@[simp] def b_giveState_41 (_ : Unit) : EB := .seq (hid b_giveState_38) (hid b_giveState_40)
@[simp] def b_giveState_42 (_ : Unit) : EB := .seq (hid b_giveState_28) (hid b_giveState_41)
@[simp] def b_giveState_43 (_ : Unit) : EB := .loop (hid b_giveState_42)
@[simp] def b_giveState_44 (_ : Unit) : EB := .block 2 (hid b_giveState_43)
@[simp] def b_giveState_45 (_ : Unit) : EB := .seq (hid b_giveState_24) (hid b_giveState_44)
@[simp] def l_giveState_46 (_ : Unit) : List EOp := [⟨0, (some 62), none, (.q (.lda 5 (.t 3))), []⟩, ⟨1, none, none, (.fz (.sto 5 (.t 2) (.t 62))), []⟩]
@[simp] def b_giveState_47 (_ : Unit) : EB := reg0 (hid l_giveState_46) 2
@[simp] def b_giveState_48 (_ : Unit) : EB := .seq (hid b_giveState_47) .ret
@[simp] def b_giveState_49 (_ : Unit) : EB := .seq (hid b_giveState_45) (hid b_giveState_48)
@[simp] def b_giveState_50 (_ : Unit) : EB := .seq (hid b_giveState_22) (hid b_giveState_49)
@[simp] def b_giveState_51 (_ : Unit) : EB := .seq (hid b_giveState_5) (hid b_giveState_50)
@[simp] def b_giveState_52 (_ : Unit) : EB := .seq (hid b_giveState_2) (hid b_giveState_51)
def c_giveState : EB × List QOp × Nat := ((hid b_giveState_52), [(.lda 5 (.t 2))], 63)
theorem k_giveState : cfun Tryz.prog 8 = some c_giveState := by kernel_rfl


def zC : List EC := [.fz (.lit (.int .i64 0)), .fz (.lit (.int .i64 0)), .fz (.lit (.int .i64 0)), .fz (.lit (.slice none 0 0)), .fz (.lit (.slice none 0 0))]
def gC (s : Sta) (a b : EC) : List EC := [.fz (.lit (.int .i64 s.num)), .fz (.lit (.int .i64 s.h0)), .fz (.lit (.int .i64 s.h1)), a, b]

set_option maxHeartbeats 2000000 in
theorem giveState_ok (s : Sta) (hs : s.ok) (hm : s.small) : ECalls Tryz.prog 8 [SV s] [] fun y H' => H' = [] ∧ y = SV s := by
  obtain ⟨ok1, ok2, ok3, ok4, ok5, ok6, ok7⟩ := id hs
  obtain ⟨m1, m2, m3⟩ := hm
  refine ecalls k_giveState ?_
  simp [c_giveState, SV, staC]
  refine loopW _ (weak_nil (o := 112) (k := 3) (ty := 65) (es := 36) rfl rfl (by omega)) ?_
  refine loopW _ (weak_nil (o := 112) (k := 4) (ty := 66) (es := 3) rfl rfl (by omega)) ?_
  refine eloop (α := Nat) (fun i => i ≤ s.pays.length) (fun i => s.pays.length - i)
    (fun i => [.any, Ptr 0, Ptr 1, Ptr 2, I .i64 i, .any, .any, .any, .any, .any, .any, .any, .any, .any, .any, .any, .any, .any, .any, .any, .any, .any, .any, .any, .any, .any, .any, .any, .any, .any, .any, .any, .any, .any, .any, .any, .any, .any, .any, .any, .any, .any, .any, .any, .any, .any, .any, .any, .any, .any, .any, .any, .any, .any, .any, .any, .any, .any, .any, .any, .any, .any, .any]) (fun i => [some (.box 26 (staC s)), some (.box 33 zC), some (.box 33 (gC s (.row 3 i) (.row 4 0))), some (.row 65 36 (payv (s.pays.take i))), some (.row 66 3 [])]) 0 [0, 16, 112, 160, 161]
    (Nat.zero_le _) (by simp [Ptr, I]) (by simp [zC, gC, staC, payv]) (by simp) (by simp) (by simp) ?_
  intro i hi
  simp [Ptr, I, staC, zC, gC]
  refine alt (fun hlt => ?_) (fun hlt => ?_)
  · obtain ⟨p, hc⟩ : ∃ p, s.pays[i]? = some p := ⟨s.pays[i], by simp [hlt]⟩
    have hpo := ok4 p (List.mem_of_getElem? hc)
    have hl32 := hpo.2.2.2.2
    have ht : p.lock.take 32 = p.lock := List.take_of_length_le (by omega)
    have hcb := payv_get hc
    have w2 : IntKind.i64.wrap ((i : Int) + 1) = ((i + 1 : Nat) : Int) := wrap_i64 (by omega) (by omega)
    have e2 : payv (s.pays.take (i + 1)) = payv (s.pays.take i) ++ [payF p] := by rw [take_s hc]; simp [payv]
    have hm0 : min i s.pays.length = i := by omega
    simp [hcb, payF, hl32, ht, w2, hm0, -Int.natCast_add]
    refine ⟨by omega, ?_⟩
    exact round (i + 1) [0, 1, 2, 213, 4] (by omega) (by omega) (by simp) (by simp [e2, payF]) (by simp) (by simp) (by simp)
  have hil : i = s.pays.length := by omega
  subst hil
  rw [List.take_length]
  simp
  refine eloop (α := Nat) (fun i => i ≤ s.holds.length) (fun i => s.holds.length - i)
    (fun i => [.any, Ptr 0, Ptr 1, Ptr 2, .any, I .i64 i, .any, .any, .any, .any, .any, .any, .any, .any, .any, .any, .any, .any, .any, .any, .any, .any, .any, .any, .any, .any, .any, .any, .any, .any, .any, .any, .any, .any, .any, .any, .any, .any, .any, .any, .any, .any, .any, .any, .any, .any, .any, .any, .any, .any, .any, .any, .any, .any, .any, .any, .any, .any, .any, .any, .any, .any, .any]) (fun i => [some (.box 26 (staC s)), some (.box 33 zC), some (.box 33 (gC s (.row 3 s.pays.length) (.row 4 i))), some (.row 65 36 (payv s.pays)), some (.row 66 3 (holv (s.holds.take i)))]) 0 [0, 1, 2, 3, 4]
    (Nat.zero_le _) (by simp [Ptr, I]) (by simp [zC, gC, staC, holv]) (by simp) (by simp) (by simp) ?_
  intro i hi
  simp [Ptr, I, staC, zC, gC]
  refine alt (fun hlt => ?_) (fun hlt => ?_)
  · obtain ⟨p, hc⟩ : ∃ p, s.holds[i]? = some p := ⟨s.holds[i], by simp [hlt]⟩
    have hk := m3 p (List.mem_of_getElem? hc)
    have hcb := holv_get hc
    have w2 : IntKind.i64.wrap ((i : Int) + 1) = ((i + 1 : Nat) : Int) := wrap_i64 (by omega) (by omega)
    have e2 : holv (s.holds.take (i + 1)) = holv (s.holds.take i) ++ [holF p] := by rw [take_s hc]; simp [holv]
    have hm0 : min i s.holds.length = i := by omega
    simp [hcb, holF, w2, hm0, -Int.natCast_add]
    refine ⟨⟨by omega, by omega⟩, ⟨by omega, by omega⟩, ?_⟩
    exact round (i + 1) [0, 1, 2, 3, 485] (by omega) (by omega) (by simp) (by simp [e2, holF, List.take_of_length_le]) (by simp) (by simp) (by simp)
  have hil : i = s.holds.length := by omega
  subst hil
  rw [List.take_length]
  simp
  refine finW _ (weak_frz (o := 3) (ty := 65) (es := 36) (xs := payv s.pays) rfl) ?_
  refine finW _ (weak_frz (o := 4) (ty := 66) (es := 3) (xs := holv s.holds) rfl) ?_
  exact fin [] (by decide) rfl rfl rfl ⟨rfl, by simp [List.take_of_length_le]⟩

end Go.Proofs.YtpohjnhlhfbnaaaGreatDoor

namespace Go.Proofs.YtpohjnhlhfbnaaaGreatDoor
open Go Go.EW
set_option linter.unusedSimpArgs false
set_option linter.unusedVariables false

@[simp] def l_same_1 (_ : Unit) : List EOp := [⟨0, (some 4), none, (.q (.box 33 (.t 0))), []⟩, ⟨1, (some 6), none, (.q (.box 26 (.t 2))), []⟩, ⟨2, (some 8), none, (.q (.mov (.k (.bool false)))), []⟩]
@[simp] def b_same_2 (_ : Unit) : EB := reg0 (hid l_same_1) 3
@[simp] def l_same_5 (_ : Unit) : List EOp := [⟨12, (some 21), none, (.q (.pick (.t 13) (.t 20) (.k (.bool false)))), []⟩, ⟨13, (some 8), none, (.q (.mov (.t 21))), []⟩]
@[simp] def l_same_4 (_ : Unit) : List EOp := ⟨8, (some 17), (some (13, true)), (.q (.lda 5 (.t 6))), []⟩ :: ⟨6, (some 15), (some (13, true)), (.call 14 [(.t 14)]), [8]⟩ :: ⟨7, (some 16), (some (13, true)), (.q (.b2s (.t 15))), []⟩ :: ⟨9, (some 18), (some (13, true)), (.call 15 [(.t 17)]), [7]⟩ :: ⟨10, (some 19), (some (13, true)), (.q (.b2s (.t 18))), []⟩ :: ⟨11, (some 20), (some (13, true)), (.q (.bin .eql (.t 16) (.t 19))), []⟩ :: hid l_same_5
@[simp] def l_same_3 (_ : Unit) : List EOp := ⟨0, (some 9), none, (.q (.mov (.t 1))), []⟩ :: ⟨2, (some 11), none, (.q (.mov (.t 3))), []⟩ :: ⟨1, (some 10), none, (.call 9 [(.t 9)]), [2]⟩ :: ⟨3, (some 12), none, (.q (.bin .eql (.t 10) (.t 11))), []⟩ :: ⟨4, (some 13), none, (.q (.mov (.t 12))), []⟩ :: ⟨5, (some 14), (some (13, true)), (.q (.lda 5 (.t 4))), []⟩ :: hid l_same_4
@[simp] def b_same_6 (_ : Unit) : EB := reg1 (hid l_same_3) 14
@[simp] def b_same_7 (_ : Unit) : EB := .seq (hid b_same_6) .ret
@[simp] def b_same_8 (_ : Unit) : EB := .seq (hid b_same_2) (hid b_same_7)
def c_same : EB × List QOp × Nat := ((hid b_same_8), [(.mov (.t 8))], 22)
theorem k_same : cfun Tryz.prog 18 = some c_same := by kernel_rfl

@[simp] def l_sure_1 (_ : Unit) : List EOp := [⟨0, (some 0), none, (.q (.mov (.k (.bool false)))), []⟩]
@[simp] def b_sure_2 (_ : Unit) : EB := reg0 (hid l_sure_1) 1
@[simp] def l_sure_4 (_ : Unit) : List EOp := [⟨6, (some 1), none, (.q (.alloc 33 [(.int .i64 0), (.int .i64 0), (.int .i64 0), (.slice none 0 0), (.slice none 0 0)])), []⟩, ⟨7, none, none, (.fz (.sto 5 (.t 1) (.t 7))), []⟩, ⟨8, (some 2), none, (.q (.mov (.t 8))), []⟩]
@[simp] def l_sure_3 (_ : Unit) : List EOp := ⟨0, (some 4), none, (.q (.build [(.int .i64 0), (.int .i64 0)] [(0, 1, (.k (.int .i64 50))), (1, 1, (.k (.int .i64 50)))])), []⟩ :: ⟨1, (some 5), none, (.q (.build [(.int .i64 0), (.int .i64 0), (.int .i64 0), (.slice none 0 0), (.slice none 0 0)] [(1, 2, (.t 4))])), []⟩ :: ⟨2, (some 6), none, (.call 19 [(.t 5), (.k (.int .i64 0)), (.k (.int .i64 20))]), []⟩ :: ⟨3, (some 3), none, (.q (.mov (.t 6))), []⟩ :: ⟨4, (some 7), none, (.q (.ext 0 (.t 3))), []⟩ :: ⟨5, (some 8), none, (.q (.ext 1 (.t 3))), []⟩ :: hid l_sure_4
@[simp] def b_sure_5 (_ : Unit) : EB := reg0 (hid l_sure_3) 9
@[simp] def l_sure_8 (_ : Unit) : List EOp := [⟨12, (some 21), none, (.q (.pick (.t 17) (.t 20) (.k (.bool false)))), []⟩, ⟨13, (some 0), none, (.q (.mov (.t 21))), []⟩]
@[simp] def l_sure_7 (_ : Unit) : List EOp := ⟨6, (some 15), (some (11, true)), (.q (.eqa false 2 .i64 (.t 13) (.t 14))), []⟩ :: ⟨7, (some 16), none, (.q (.pick (.t 11) (.t 15) (.k (.bool false)))), []⟩ :: ⟨8, (some 17), none, (.q (.mov (.t 16))), []⟩ :: ⟨9, (some 18), (some (17, true)), (.q (.fad 0 (.t 1))), []⟩ :: ⟨10, (some 19), (some (17, true)), (.q (.ldc (.t 18))), []⟩ :: ⟨11, (some 20), (some (17, true)), (.q (.bin .eql (.t 19) (.k (.int .i64 1)))), []⟩ :: hid l_sure_8
@[simp] def l_sure_6 (_ : Unit) : List EOp := ⟨0, (some 9), none, (.q (.mov (.t 2))), []⟩ :: ⟨1, (some 10), none, (.q (.eqi false (.t 9))), []⟩ :: ⟨2, (some 11), none, (.q (.mov (.t 10))), []⟩ :: ⟨3, (some 12), (some (11, true)), (.q (.fad 1 (.t 1))), []⟩ :: ⟨4, (some 13), (some (11, true)), (.q (.lda 2 (.t 12))), []⟩ :: ⟨5, (some 14), (some (11, true)), (.q (.build [(.int .i64 0), (.int .i64 0)] [(0, 1, (.k (.int .i64 30))), (1, 1, (.k (.int .i64 70)))])), []⟩ :: hid l_sure_7
@[simp] def b_sure_9 (_ : Unit) : EB := reg0 (hid l_sure_6) 14
@[simp] def b_sure_10 (_ : Unit) : EB := .seq (hid b_sure_9) .ret
@[simp] def b_sure_11 (_ : Unit) : EB := .seq (hid b_sure_5) (hid b_sure_10)
@[simp] def b_sure_12 (_ : Unit) : EB := .seq (hid b_sure_2) (hid b_sure_11)
def c_sure : EB × List QOp × Nat := ((hid b_sure_12), [(.mov (.t 0))], 22)
theorem k_sure : cfun Tryz.prog 5 = some c_sure := by kernel_rfl


theorem num_e (e : Nat) : ECalls Tryz.prog 9 [.lit (errV e)] [] fun y H' => H' = [] ∧ y = I .i64 e := by
  have h := num_ok (e : Int)
  have e1 : EN (e : Int) = .lit (errV e) := by
    unfold EN errV
    by_cases h : e = 0
    · subst h; rfl
    · rw [if_neg (by omega), if_neg h]
  rw [e1] at h
  exact h

/-- What is said of a state without payments and holds is said of one whose slices are nil. -/
theorem ecalls_nlS {P : Program} {f : FuncId} {e1 e2 : Nat} {a b c : EC} {rest : List EV} {H : List EO} {post : EV → List (Option EO) → Prop} (h : ECalls P f (.v (.agg [a, b, c, .fz (.sl e1 []), .fz (.sl e2 [])]) :: rest) H post) :
    ECalls P f (.v (.agg [a, b, c, .fz (.lit (.slice none 0 0)), .fz (.lit (.slice none 0 0))]) :: rest) H post := by
  intro ρ Φ w vals r ha
  refine h ρ Φ w vals r ?_
  obtain ⟨u, us, rfl, h1, h2⟩ := ha.cons_left
  refine All2.cons ?_ h2
  obtain ⟨vs, rfl, hv⟩ := h1
  refine ⟨vs, rfl, by simpa using hv.1, ?_⟩
  intro i x y hx hy
  rcases i with _ | _ | _ | _ | _ | i
  · exact hv.2 0 x y hx hy
  · exact hv.2 1 x y hx hy
  · exact hv.2 2 x y hx hy
  · have := hv.2 3 _ y rfl hy
    simp at hx; subst hx
    exact nl_vr this
  · have := hv.2 4 _ y rfl hy
    simp at hx; subst hx
    exact nl_vr this
  · simp at hx

theorem zSta_ok : zSta.ok ∧ zSta.small := by simp [zSta, Sta.ok, Sta.small, i64]
theorem mayS_b {s : Sta} (h : mayS s = true) : 0 ≤ s.num ∧ s.num ≤ 1099511627776 ∧ 0 ≤ s.h0 ∧ s.h0 ≤ 1125899906842624 ∧ 0 ≤ s.h1 ∧ s.h1 ≤ 1125899906842624 := by
  unfold mayS at h
  simp only [Bool.and_eq_true, decide_eq_true_eq] at h
  omega

theorem moveS_ok {s : Sta} {a b : Int} (hs : s.ok) (hm : s.small) : (moveS s a b).1.ok ∧ (moveS s a b).1.small := by
  have hz := zSta_ok
  obtain ⟨ok1, ok2, ok3, ok4, ok5, ok6, ok7⟩ := id hs
  unfold moveS
  split
  · exact hz
  rename_i h1
  have hy : mayS s = true := by
    unfold nxt at h1
    split at h1
    · rename_i h; exact h.1
    · simp at h1
  have hb := mayS_b hy
  split
  · exact hz
  split
  · exact hz
  by_cases h5 : a = 0
  · simp only [h5, if_true]
    split
    · exact hz
    · exact ⟨⟨by unfold i64; simp; omega, by unfold i64; simp; omega, by unfold i64; simp; omega, ok4, ok5, ok6, ok7⟩, hm⟩
  · simp only [h5, if_false]
    split
    · exact hz
    · exact ⟨⟨by unfold i64; simp; omega, by unfold i64; simp; omega, by unfold i64; simp; omega, ok4, ok5, ok6, ok7⟩, hm⟩

set_option maxHeartbeats 2000000 in
theorem same_ok (x : Sta) (e : Nat) (hx : x.ok) (hm : x.small) : ECalls Tryz.prog 18 [SV x, .lit (errV e), SV x, I .i64 e] [] fun y H' => H' = [] ∧ y = .lit (.bool true) := by
  refine ecalls k_same ?_
  simp [c_same, SV, staC, I]
  refine call0 (num_e e) (by simp [Ptr, I, EV.lit, Bs, SV, staC, SE, RE]) ?_
  rintro y H' ⟨rfl, rfl⟩
  refine ⟨.inl (by simp [Ptr, I, EV.lit, Bs, SV, staC, SE, RE]), le_ok rfl, ?_⟩
  simp [Ptr, I, EV.lit, Bs, SV, staC, SE, RE]
  refine call0 (Encode_ok x hx hm) (by simp [Ptr, I, EV.lit, Bs, SV, staC, SE, RE]) ?_
  rintro y H' ⟨rfl, rfl⟩
  refine ⟨.inl (by simp [Ptr, I, EV.lit, Bs, SV, staC, SE, RE]), le_ok rfl, ?_⟩
  simp [Ptr, I, EV.lit, Bs, SV, staC, SE, RE]
  refine call0 (REncode_ok x hx hm) (by simp [Ptr, I, EV.lit, Bs, SV, staC, SE, RE]) ?_
  rintro y H' ⟨rfl, rfl⟩
  refine ⟨.inl (by simp [Ptr, I, EV.lit, Bs, SV, staC, SE, RE]), le_ok rfl, ?_⟩
  simp [Ptr, I, EV.lit, Bs, SV, staC, SE, RE]
  exact fin [] (by decide) rfl rfl rfl ⟨rfl, rfl⟩

set_option maxHeartbeats 2000000 in
theorem sure_ok : ECalls Tryz.prog 5 [] [] fun y H' => H' = [] ∧ y = .lit (.bool true) := by
  have hok : (Sta.mk 0 50 50 [] []).ok := by simp [Sta.ok, i64]
  have hv : moveS ⟨0, 50, 50, [], []⟩ 0 20 = (⟨1, 30, 70, [], []⟩, 0) := by simp [moveS, nxt, mayS, total, sumP, sumH, payL, holL]
  have hmv := Move_ok ⟨0, 50, 50, [], []⟩ 0 20 hok (by simp [i64]) (by simp [i64])
  rw [hv] at hmv
  refine ecalls k_sure ?_
  simp [c_sure]
  refine call0 (ecalls_nlS hmv) (by simp [Ptr, I, EV.lit, Bs, SV, staC, SE, RE]) ?_
  rintro y H' ⟨rfl, rfl⟩
  refine ⟨.inl (by simp [Ptr, I, EV.lit, Bs, SV, staC, SE, RE]), le_ok rfl, ?_⟩
  simp [Ptr, I, EV.lit, Bs, SV, staC, SE, RE]
  exact fin [] (by decide) rfl rfl rfl ⟨rfl, rfl⟩

end Go.Proofs.YtpohjnhlhfbnaaaGreatDoor

namespace Go.Proofs.YtpohjnhlhfbnaaaGreatDoor
open Go Go.EW
set_option linter.unusedSimpArgs false

def intF (n : Int) : List FV := [.lit (.int .i64 n)]
theorem opn_ints : Opn BB Tryz.prog 53 (fun l : List Int => [FV.sl 1 (l.map intF)]) (fun l => (∀ x ∈ l, i64 x) ∧ l.length ≤ maxLen) (fun l => l.length + 1) :=
  (opn_slice bok (e := 3) (es := 1) (by kernel_rfl) (by kernel_rfl) (by omega) opn_i64).map id (fun _ _ => rfl) (fun _ h => h) (fun l _ => by rw [sumB_one]; exact Nat.le_refl _)

theorem opn_two : Opn BB Tryz.prog 22 (fun p : Int × Int => [FV.lit (.int .i64 p.1), .lit (.int .i64 p.2)]) (fun p => i64 p.1 ∧ i64 p.2) (fun _ => 1) :=
  (opn_array bok (e := 3) (es := 1) (n := 2) (by kernel_rfl) (by kernel_rfl) (by kernel_rfl) opn_i64).map (fun l => (l[0]?.getD 0, l[1]?.getD 0)) (by
    rintro l ⟨_, h⟩
    match l, h with
    | [a, b], _ => simp) (by
    rintro l ⟨h1, h⟩
    match l, h, h1 with
    | [a, b], _, h1 => exact ⟨h1 a (by simp), h1 b (by simp)⟩) (fun _ _ => by omega)

theorem opn_pay : Opn BB Tryz.prog 74 payF Pay.ok (fun _ => 1) :=
  (opn_struct (tot := 36) bok Tryz.underlying74 (by kernel_rfl)
    (opnFs_cons bok (n := 1) (tot := 35) opn_i64 rfl (by kernel_rfl) (opnFs_cons bok (n := 1) (tot := 34) opn_i64 rfl (by kernel_rfl)
      (opnFs_cons bok (n := 1) (tot := 33) opn_i64 rfl (by kernel_rfl) (opnFs_cons bok (n := 1) (tot := 32) opn_i64 rfl (by kernel_rfl)
      (opnFs_cons bok (n := 32) (tot := 0) opn_hash rfl (by kernel_rfl) opnFs_nil)))))).map
    (fun p => (⟨p.1, p.2.1, p.2.2.1, p.2.2.2.1, p.2.2.2.2.1⟩ : Pay)) (by rintro ⟨a, b, c, d, e, u⟩ _; simp [payF]) (by rintro ⟨a, b, c, d, e, u⟩ h; exact ⟨h.1, h.2.1, h.2.2.1, h.2.2.2.1, h.2.2.2.2.1⟩) (by rintro ⟨a, b, c, d, e, u⟩ _; simp)
theorem opn_hol : Opn BB Tryz.prog 55 holF (fun h => i64 h.id ∧ i64 h.am ∧ (∀ k ∈ h.keys, i64 k)) (fun h => h.keys.length + 1) :=
  (opn_struct (tot := 3) bok Tryz.underlying55 (by kernel_rfl)
    (opnFs_cons bok (n := 1) (tot := 2) opn_i64 rfl (by kernel_rfl) (opnFs_cons bok (n := 1) (tot := 1) opn_i64 rfl (by kernel_rfl)
      (opnFs_cons bok (n := 1) (tot := 0) opn_ints rfl (by kernel_rfl) opnFs_nil)))).map
    (fun p => (⟨p.1, p.2.1, p.2.2.1⟩ : Hol)) (by rintro ⟨a, b, c, u⟩ _; simp [holF, intv, intF]) (by rintro ⟨a, b, c, u⟩ h; exact ⟨h.1, h.2.1, h.2.2.1.1⟩) (by rintro ⟨a, b, c, u⟩ _; simp; omega)
theorem opn_pays : Opn BB Tryz.prog 23 (fun l : List Pay => [FV.sl 36 (payv l)]) (fun l => ∀ x ∈ l, x.ok) (fun l => l.length) :=
  (opn_slice bok (by kernel_rfl) (by kernel_rfl) (by omega) opn_pay).map id (fun _ _ => rfl) (fun _ h => h.1) (fun l _ => by rw [sumB_one]; simp)
theorem opn_hols : Opn BB Tryz.prog 24 (fun l : List Hol => [FV.sl 3 (holv l)]) (fun l => ∀ h ∈ l, i64 h.id ∧ i64 h.am ∧ (∀ k ∈ h.keys, i64 k)) (fun l => sumB (fun h : Hol => h.keys.length + 1) l) :=
  (opn_slice bok (by kernel_rfl) (by kernel_rfl) (by omega) opn_hol).map id (fun _ _ => rfl) (fun _ h => h.1) (fun l _ => by simp)
def Sta.ok0 (s : Sta) : Prop := i64 s.num ∧ i64 s.h0 ∧ i64 s.h1 ∧ (∀ p ∈ s.pays, p.ok) ∧ ∀ h ∈ s.holds, i64 h.id ∧ i64 h.am ∧ (∀ k ∈ h.keys, i64 k)
def staF (s : Sta) : List FV := [.lit (.int .i64 s.num), .lit (.int .i64 s.h0), .lit (.int .i64 s.h1), .sl 36 (payv s.pays), .sl 3 (holv s.holds)]
def staB (s : Sta) : Nat := s.pays.length + sumB (fun h : Hol => h.keys.length + 1) s.holds
theorem opn_sta : Opn BB Tryz.prog 26 staF Sta.ok0 staB :=
  (opn_struct (tot := 5) bok Tryz.underlying26 (by kernel_rfl)
    (opnFs_cons bok (n := 1) (tot := 4) opn_i64 rfl (by kernel_rfl) (opnFs_cons bok (n := 2) (tot := 2) opn_two rfl (by kernel_rfl)
      (opnFs_cons bok (n := 1) (tot := 1) opn_pays rfl (by kernel_rfl) (opnFs_cons bok (n := 1) (tot := 0) opn_hols rfl (by kernel_rfl) opnFs_nil))))).map
    (fun p => (⟨p.1, p.2.1.1, p.2.1.2, p.2.2.1, p.2.2.2.1⟩ : Sta)) (by rintro ⟨a, b, c, d, u⟩ _; simp [staF]) (by rintro ⟨a, b, c, d, u⟩ h; exact ⟨h.1, h.2.1.1, h.2.1.2, h.2.2.1, h.2.2.2.1⟩) (by rintro ⟨a, b, c, d, u⟩ _; simp [staB]; omega)
theorem sta_ok {s : Sta} (h : s.ok0) (hb : staB s ≤ 1048576) : s.ok := by
  have key : ∀ (l : List Hol), l.length ≤ sumB (fun h : Hol => h.keys.length + 1) l ∧ ∀ x ∈ l, x.keys.length ≤ sumB (fun h : Hol => h.keys.length + 1) l := by
    intro l
    induction l with
    | nil => simp
    | cons y r ih =>
      simp only [sumB, List.length_cons]
      refine ⟨by omega, ?_⟩
      intro x hx
      rcases List.mem_cons.1 hx with rfl | hx
      · omega
      · have := ih.2 x hx; omega
  obtain ⟨k1, k2⟩ := key s.holds
  unfold staB at hb
  refine ⟨h.1, h.2.1, h.2.2.1, h.2.2.2.1, fun x hx => ?_, by omega, by omega⟩
  have q := h.2.2.2.2 x hx
  have := k2 x hx
  exact ⟨q.1, q.2.1, q.2.2, by omega⟩

end Go.Proofs.YtpohjnhlhfbnaaaGreatDoor

namespace Go.Proofs.YtpohjnhlhfbnaaaGreatDoor
open Go Go.EW
set_option linter.unusedSimpArgs false
set_option linter.unusedVariables false

@[simp] def l_Rfail_1 (_ : Unit) : List EOp := [⟨0, (some 2), none, (.q (.box 70 (.t 0))), []⟩, ⟨1, (some 4), none, (.q (.alloc 70 [(.slice none 0 0), (.int .i64 0)])), []⟩]
@[simp] def b_Rfail_2 (_ : Unit) : EB := reg0 (hid l_Rfail_1) 2
@[simp] def l_Rfail_3 (_ : Unit) : List EOp := [⟨0, (some 5), none, (.q (.fad 1 (.t 2))), []⟩, ⟨1, (some 6), none, (.q (.ldc (.t 5))), []⟩, ⟨2, (some 7), none, (.q (.bin .eql (.t 6) (.k (.int .i64 0)))), []⟩]
@[simp] def b_Rfail_4 (_ : Unit) : EB := reg0 (hid l_Rfail_3) 3
@[simp] def l_Rfail_5 (_ : Unit) : List EOp := [⟨0, (some 8), none, (.q (.mov (.t 1))), []⟩, ⟨1, (some 9), none, (.q (.fad 1 (.t 2))), []⟩, ⟨2, none, none, (.sto 1 (.t 9) (.t 8)), []⟩]
@[simp] def b_Rfail_6 (_ : Unit) : EB := reg0 (hid l_Rfail_5) 3
@[simp] def b_Rfail_7 (_ : Unit) : EB := .cond (.t 7) (hid b_Rfail_6) .skip
@[simp] def b_Rfail_8 (_ : Unit) : EB := .seq (hid b_Rfail_4) (hid b_Rfail_7)
@[simp] def l_Rfail_9 (_ : Unit) : List EOp := [⟨0, (some 10), none, (.q (.lda 2 (.t 2))), []⟩, ⟨1, none, none, (.fz (.sto 2 (.t 4) (.t 10))), []⟩]
@[simp] def b_Rfail_10 (_ : Unit) : EB := reg0 (hid l_Rfail_9) 2
@[simp] def b_Rfail_11 (_ : Unit) : EB := .seq (hid b_Rfail_10) .ret
@[simp] def b_Rfail_12 (_ : Unit) : EB := .seq (hid b_Rfail_8) (hid b_Rfail_11)
@[simp] def b_Rfail_13 (_ : Unit) : EB := .seq (hid b_Rfail_2) (hid b_Rfail_12)
def c_Rfail : EB × List QOp × Nat := ((hid b_Rfail_13), [(.lda 2 (.t 4))], 11)
theorem k_Rfail : cfun Tryz.prog 55 = some c_Rfail := by kernel_rfl

@[simp] def l_Rnumber_1 (_ : Unit) : List EOp := [⟨0, (some 6), none, (.q (.mov (.k (.int .u64 0)))), []⟩, ⟨1, (some 7), none, (.q (.mov (.k (.int .i64 0)))), []⟩]
@[simp] def b_Rnumber_2 (_ : Unit) : EB := reg0 (hid l_Rnumber_1) 2
@[simp] def l_Rnumber_3 (_ : Unit) : List EOp := [⟨0, (some 11), none, (.q (.mov (.t 0))), []⟩, ⟨1, (some 12), none, (.q (.len (.t 11))), []⟩, ⟨2, (some 13), none, (.q (.mov (.t 1))), []⟩, ⟨3, (some 14), none, (.q (.bin .add (.k (.int .i64 1)) (.t 13))), []⟩, ⟨4, (some 15), none, (.q (.bin .lss (.t 12) (.t 14))), []⟩]
@[simp] def b_Rnumber_4 (_ : Unit) : EB := reg0 (hid l_Rnumber_3) 5
@[simp] def l_Rnumber_5 (_ : Unit) : List EOp := [⟨0, (some 6), none, (.q (.mov (.k (.int .u64 0)))), []⟩, ⟨1, (some 7), none, (.q (.mov (.k (.int .i64 12)))), []⟩]
@[simp] def b_Rnumber_6 (_ : Unit) : EB := reg0 (hid l_Rnumber_5) 2
@[simp] def b_Rnumber_7 (_ : Unit) : EB := .seq (hid b_Rnumber_6) .ret
@[simp] def b_Rnumber_8 (_ : Unit) : EB := .cond (.t 15) (hid b_Rnumber_7) .skip
@[simp] def b_Rnumber_9 (_ : Unit) : EB := .seq (hid b_Rnumber_4) (hid b_Rnumber_8)
@[simp] def l_Rnumber_10 (_ : Unit) : List EOp := [⟨0, (some 8), none, (.q (.mov (.k (.int .u64 0)))), []⟩]
@[simp] def b_Rnumber_11 (_ : Unit) : EB := reg0 (hid l_Rnumber_10) 1
@[simp] def l_Rnumber_12 (_ : Unit) : List EOp := [⟨0, (some 9), none, (.q (.mov (.k (.int .i64 1)))), []⟩]
@[simp] def b_Rnumber_13 (_ : Unit) : EB := reg0 (hid l_Rnumber_12) 1
@[simp] def l_Rnumber_14 (_ : Unit) : List EOp := [⟨0, (some 16), none, (.q (.mov (.t 9))), []⟩, ⟨1, (some 17), none, (.q (.mov (.t 1))), []⟩, ⟨2, (some 18), none, (.q (.bin .leq (.t 16) (.t 17))), []⟩]
@[simp] def b_Rnumber_15 (_ : Unit) : EB := reg0 (hid l_Rnumber_14) 3
@[simp] def b_Rnumber_16 (_ : Unit) : EB := .cond (.t 18) .skip (.exit 0)
@[simp] def b_Rnumber_17 (_ : Unit) : EB := .seq (hid b_Rnumber_15) (hid b_Rnumber_16)
@[simp] def l_Rnumber_18 (_ : Unit) : List EOp := [⟨0, (some 21), none, (.q (.mov (.t 0))), []⟩, ⟨1, (some 22), none, (.q (.mov (.t 9))), []⟩, ⟨2, (some 23), none, (.q (.isl 1 (.t 21) (.t 22))), []⟩, ⟨3, (some 24), none, (.q (.ldc (.t 23))), []⟩, ⟨4, (some 10), none, (.q (.mov (.t 24))), []⟩]
@[simp] def b_Rnumber_19 (_ : Unit) : EB := reg0 (hid l_Rnumber_18) 5
@[simp] def l_Rnumber_20 (_ : Unit) : List EOp := [⟨0, (some 25), none, (.q (.mov (.t 2))), []⟩]
@[simp] def b_Rnumber_21 (_ : Unit) : EB := reg0 (hid l_Rnumber_20) 1
@[simp] def l_Rnumber_22 (_ : Unit) : List EOp := [⟨0, (some 26), none, (.q (.mov (.t 10))), []⟩, ⟨1, (some 27), none, (.q (.bin .sub (.k (.int .u8 255)) (.t 26))), []⟩, ⟨2, (some 10), none, (.q (.mov (.t 27))), []⟩]
@[simp] def b_Rnumber_23 (_ : Unit) : EB := reg0 (hid l_Rnumber_22) 3
@[simp] def b_Rnumber_24 (_ : Unit) : EB := .cond (.t 25) (hid b_Rnumber_23) .skip
@[simp] def b_Rnumber_25 (_ : Unit) : EB := .seq (hid b_Rnumber_21) (hid b_Rnumber_24)
@[simp] def l_Rnumber_26 (_ : Unit) : List EOp := [⟨0, (some 28), none, (.q (.mov (.t 9))), []⟩, ⟨1, (some 29), none, (.q (.bin .eql (.t 28) (.k (.int .i64 1)))), []⟩, ⟨2, (some 30), none, (.q (.mov (.t 29))), []⟩, ⟨3, (some 31), (some (30, true)), (.q (.mov (.t 10))), []⟩, ⟨4, (some 32), (some (30, true)), (.q (.bin .eql (.t 31) (.k (.int .u8 0)))), []⟩, ⟨5, (some 33), none, (.q (.pick (.t 30) (.t 32) (.k (.bool false)))), []⟩]
@[simp] def b_Rnumber_27 (_ : Unit) : EB := reg0 (hid l_Rnumber_26) 6
@[simp] def l_Rnumber_28 (_ : Unit) : List EOp := [⟨0, (some 6), none, (.q (.mov (.k (.int .u64 0)))), []⟩, ⟨1, (some 7), none, (.q (.mov (.k (.int .i64 3)))), []⟩]
@[simp] def b_Rnumber_29 (_ : Unit) : EB := reg0 (hid l_Rnumber_28) 2
@[simp] def b_Rnumber_30 (_ : Unit) : EB := .seq (hid b_Rnumber_29) .ret
@[simp] def b_Rnumber_31 (_ : Unit) : EB := .cond (.t 33) (hid b_Rnumber_30) .skip
@[simp] def b_Rnumber_32 (_ : Unit) : EB := .seq (hid b_Rnumber_27) (hid b_Rnumber_31)
@[simp] def l_Rnumber_33 (_ : Unit) : List EOp := [⟨0, (some 34), none, (.q (.mov (.t 8))), []⟩, ⟨1, (some 35), none, (.q (.bin .mul (.k (.int .u64 256)) (.t 34))), []⟩, ⟨2, (some 36), none, (.q (.mov (.t 10))), []⟩, ⟨3, (some 37), none, (.q (.cnv .u64 (.t 36))), []⟩, ⟨4, (some 38), none, (.q (.bin .add (.t 35) (.t 37))), []⟩, ⟨5, (some 8), none, (.q (.mov (.t 38))), []⟩]
@[simp] def b_Rnumber_34 (_ : Unit) : EB := reg0 (hid l_Rnumber_33) 6
@[simp] def b_Rnumber_35 (_ : Unit) : EB := .seq (hid b_Rnumber_32) (hid b_Rnumber_34)
@[simp] def b_Rnumber_36 (_ : Unit) : EB := .seq (hid b_Rnumber_25) (hid b_Rnumber_35)
@[simp] def b_Rnumber_37 (_ : Unit) : EB := .seq (hid b_Rnumber_19) (hid b_Rnumber_36)
@[simp] def b_Rnumber_38 (_ : Unit) : EB := .block 1 (hid b_Rnumber_37)
@[simp] def l_Rnumber_39 (_ : Unit) : List EOp := [⟨0, (some 19), none, (.q (.mov (.t 9))), []⟩, ⟨1, (some 20), none, (.q (.bin .add (.t 19) (.k (.int .i64 1)))), []⟩, ⟨2, (some 9), none, (.q (.mov (.t 20))), []⟩]
@[simp] def b_Rnumber_40 (_ : Unit) : EB := reg0 (hid l_Rnumber_39) 3
@[simp] def b_Rnumber_41 (_ : Unit) : EB := .seq (hid b_Rnumber_38) (hid b_Rnumber_40)
@[simp] def b_Rnumber_42 (_ : Unit) : EB := .seq (hid b_Rnumber_17) (hid b_Rnumber_41)
@[simp] def b_Rnumber_43 (_ : Unit) : EB := .loop (hid b_Rnumber_42)
@[simp] def b_Rnumber_44 (_ : Unit) : EB := .block 0 (hid b_Rnumber_43)
@[simp] def b_Rnumber_45 (_ : Unit) : EB := .seq (hid b_Rnumber_13) (hid b_Rnumber_44)
@[simp] def l_Rnumber_46 (_ : Unit) : List EOp := [⟨0, (some 39), none, (.q (.mov (.t 8))), []⟩, ⟨1, (some 6), none, (.q (.mov (.t 39))), []⟩, ⟨2, (some 7), none, (.q (.mov (.k (.int .i64 0)))), []⟩]
@[simp] def b_Rnumber_47 (_ : Unit) : EB := reg0 (hid l_Rnumber_46) 3
@[simp] def b_Rnumber_48 (_ : Unit) : EB := .seq (hid b_Rnumber_47) .ret
@[simp] def b_Rnumber_49 (_ : Unit) : EB := .seq (hid b_Rnumber_45) (hid b_Rnumber_48)
@[simp] def b_Rnumber_50 (_ : Unit) : EB := .seq (hid b_Rnumber_11) (hid b_Rnumber_49)
@[simp] def b_Rnumber_51 (_ : Unit) : EB := .seq (hid b_Rnumber_9) (hid b_Rnumber_50)
@[simp] def b_Rnumber_52 (_ : Unit) : EB := .seq (hid b_Rnumber_2) (hid b_Rnumber_51)
def c_Rnumber : EB × List QOp × Nat := ((hid b_Rnumber_52), [(.mov (.t 6)), (.mov (.t 7))], 40)
theorem k_Rnumber : cfun Tryz.prog 74 = some c_Rnumber := by kernel_rfl

@[simp] def l_RReadUint_1 (_ : Unit) : List EOp := [⟨0, (some 2), none, (.q (.box 70 (.t 0))), []⟩, ⟨1, (some 4), none, (.q (.alloc 70 [(.slice none 0 0), (.int .i64 0)])), []⟩, ⟨2, (some 5), none, (.q (.mov (.k (.int .u64 0)))), []⟩]
@[simp] def b_RReadUint_2 (_ : Unit) : EB := reg0 (hid l_RReadUint_1) 3
@[simp] def l_RReadUint_3 (_ : Unit) : List EOp := [⟨0, (some 8), none, (.q (.fad 1 (.t 2))), []⟩, ⟨1, (some 9), none, (.q (.ldc (.t 8))), []⟩, ⟨2, (some 10), none, (.q (.bin .neq (.t 9) (.k (.int .i64 0)))), []⟩]
@[simp] def b_RReadUint_4 (_ : Unit) : EB := reg0 (hid l_RReadUint_3) 3
@[simp] def l_RReadUint_5 (_ : Unit) : List EOp := [⟨0, (some 11), none, (.q (.lda 2 (.t 2))), []⟩, ⟨1, none, none, (.fz (.sto 2 (.t 4) (.t 11))), []⟩, ⟨2, (some 5), none, (.q (.mov (.k (.int .u64 0)))), []⟩]
@[simp] def b_RReadUint_6 (_ : Unit) : EB := reg0 (hid l_RReadUint_5) 3
@[simp] def b_RReadUint_7 (_ : Unit) : EB := .seq (hid b_RReadUint_6) .ret
@[simp] def b_RReadUint_8 (_ : Unit) : EB := .cond (.t 10) (hid b_RReadUint_7) .skip
@[simp] def b_RReadUint_9 (_ : Unit) : EB := .seq (hid b_RReadUint_4) (hid b_RReadUint_8)
@[simp] def l_RReadUint_10 (_ : Unit) : List EOp := [⟨0, (some 12), none, (.q (.fad 0 (.t 2))), []⟩, ⟨1, (some 13), none, (.q (.ldc (.t 12))), []⟩, ⟨2, (some 14), none, (.q (.len (.t 13))), []⟩, ⟨3, (some 15), none, (.q (.bin .eql (.t 14) (.k (.int .i64 0)))), []⟩]
@[simp] def b_RReadUint_11 (_ : Unit) : EB := reg0 (hid l_RReadUint_10) 4
@[simp] def l_RReadUint_12 (_ : Unit) : List EOp := [⟨0, (some 16), none, (.q (.lda 2 (.t 2))), []⟩, ⟨1, (some 17), none, (.call 55 [(.t 16), (.k (.int .i64 12))]), []⟩, ⟨2, none, none, (.fz (.sto 2 (.t 4) (.t 17))), []⟩, ⟨3, (some 5), none, (.q (.mov (.k (.int .u64 0)))), []⟩]
@[simp] def b_RReadUint_13 (_ : Unit) : EB := reg0 (hid l_RReadUint_12) 4
@[simp] def b_RReadUint_14 (_ : Unit) : EB := .seq (hid b_RReadUint_13) .ret
@[simp] def b_RReadUint_15 (_ : Unit) : EB := .cond (.t 15) (hid b_RReadUint_14) .skip
@[simp] def b_RReadUint_16 (_ : Unit) : EB := .seq (hid b_RReadUint_11) (hid b_RReadUint_15)
@[simp] def l_RReadUint_17 (_ : Unit) : List EOp := [⟨0, (some 18), none, (.q (.fad 0 (.t 2))), []⟩, ⟨1, (some 19), none, (.q (.ldc (.t 18))), []⟩, ⟨2, (some 20), none, (.q (.isl 1 (.t 19) (.k (.int .i64 0)))), []⟩, ⟨3, (some 21), none, (.q (.ldc (.t 20))), []⟩, ⟨4, (some 22), none, (.q (.bin .gtr (.t 21) (.k (.int .u8 8)))), []⟩]
@[simp] def b_RReadUint_18 (_ : Unit) : EB := reg0 (hid l_RReadUint_17) 5
@[simp] def l_RReadUint_19 (_ : Unit) : List EOp := [⟨0, (some 23), none, (.q (.lda 2 (.t 2))), []⟩, ⟨1, (some 24), none, (.call 55 [(.t 23), (.k (.int .i64 3))]), []⟩, ⟨2, none, none, (.fz (.sto 2 (.t 4) (.t 24))), []⟩, ⟨3, (some 5), none, (.q (.mov (.k (.int .u64 0)))), []⟩]
@[simp] def b_RReadUint_20 (_ : Unit) : EB := reg0 (hid l_RReadUint_19) 4
@[simp] def b_RReadUint_21 (_ : Unit) : EB := .seq (hid b_RReadUint_20) .ret
@[simp] def b_RReadUint_22 (_ : Unit) : EB := .cond (.t 22) (hid b_RReadUint_21) .skip
@[simp] def b_RReadUint_23 (_ : Unit) : EB := .seq (hid b_RReadUint_18) (hid b_RReadUint_22)
@[simp] def l_RReadUint_26 (_ : Unit) : List EOp := [⟨12, (some 7), none, (.q (.mov (.t 35))), []⟩]
@[simp] def l_RReadUint_25 (_ : Unit) : List EOp := ⟨6, (some 32), none, (.q (.cnv .i64 (.t 31))), []⟩ :: ⟨7, (some 33), none, (.call 74 [(.t 27), (.t 32), (.k (.bool false))]), []⟩ :: ⟨8, (some 25), none, (.q (.mov (.t 33))), []⟩ :: ⟨9, (some 34), none, (.q (.ext 0 (.t 25))), []⟩ :: ⟨10, (some 35), none, (.q (.ext 1 (.t 25))), []⟩ :: ⟨11, (some 6), none, (.q (.mov (.t 34))), []⟩ :: hid l_RReadUint_26
@[simp] def l_RReadUint_24 (_ : Unit) : List EOp := ⟨0, (some 26), none, (.q (.fad 0 (.t 2))), []⟩ :: ⟨1, (some 27), none, (.q (.ldc (.t 26))), []⟩ :: ⟨2, (some 28), none, (.q (.fad 0 (.t 2))), []⟩ :: ⟨3, (some 29), none, (.q (.ldc (.t 28))), []⟩ :: ⟨4, (some 30), none, (.q (.isl 1 (.t 29) (.k (.int .i64 0)))), []⟩ :: ⟨5, (some 31), none, (.q (.ldc (.t 30))), []⟩ :: hid l_RReadUint_25
@[simp] def b_RReadUint_27 (_ : Unit) : EB := reg0 (hid l_RReadUint_24) 13
@[simp] def l_RReadUint_29 (_ : Unit) : List EOp := [⟨6, (some 42), none, (.q (.pick (.t 38) (.t 41) (.k (.bool false)))), []⟩]
@[simp] def l_RReadUint_28 (_ : Unit) : List EOp := ⟨0, (some 36), none, (.q (.mov (.t 7))), []⟩ :: ⟨1, (some 37), none, (.q (.bin .eql (.t 36) (.k (.int .i64 0)))), []⟩ :: ⟨2, (some 38), none, (.q (.mov (.t 37))), []⟩ :: ⟨3, (some 39), (some (38, true)), (.q (.mov (.t 6))), []⟩ :: ⟨4, (some 40), (some (38, true)), (.q (.mov (.t 1))), []⟩ :: ⟨5, (some 41), (some (38, true)), (.q (.bin .gtr (.t 39) (.t 40))), []⟩ :: hid l_RReadUint_29
@[simp] def b_RReadUint_30 (_ : Unit) : EB := reg0 (hid l_RReadUint_28) 7
@[simp] def l_RReadUint_31 (_ : Unit) : List EOp := [⟨0, (some 7), none, (.q (.mov (.k (.int .i64 4)))), []⟩]
@[simp] def b_RReadUint_32 (_ : Unit) : EB := reg0 (hid l_RReadUint_31) 1
@[simp] def b_RReadUint_33 (_ : Unit) : EB := .cond (.t 42) (hid b_RReadUint_32) .skip
@[simp] def b_RReadUint_34 (_ : Unit) : EB := .seq (hid b_RReadUint_30) (hid b_RReadUint_33)
@[simp] def l_RReadUint_35 (_ : Unit) : List EOp := [⟨0, (some 43), none, (.q (.mov (.t 7))), []⟩, ⟨1, (some 44), none, (.q (.bin .neq (.t 43) (.k (.int .i64 0)))), []⟩]
@[simp] def b_RReadUint_36 (_ : Unit) : EB := reg0 (hid l_RReadUint_35) 2
@[simp] def l_RReadUint_37 (_ : Unit) : List EOp := [⟨0, (some 45), none, (.q (.lda 2 (.t 2))), []⟩, ⟨1, (some 46), none, (.q (.mov (.t 7))), []⟩, ⟨2, (some 47), none, (.call 55 [(.t 45), (.t 46)]), []⟩, ⟨3, none, none, (.fz (.sto 2 (.t 4) (.t 47))), []⟩, ⟨4, (some 5), none, (.q (.mov (.k (.int .u64 0)))), []⟩]
@[simp] def b_RReadUint_38 (_ : Unit) : EB := reg0 (hid l_RReadUint_37) 5
@[simp] def b_RReadUint_39 (_ : Unit) : EB := .seq (hid b_RReadUint_38) .ret
@[simp] def b_RReadUint_40 (_ : Unit) : EB := .cond (.t 44) (hid b_RReadUint_39) .skip
@[simp] def b_RReadUint_41 (_ : Unit) : EB := .seq (hid b_RReadUint_36) (hid b_RReadUint_40)
@[simp] def l_RReadUint_43 (_ : Unit) : List EOp := [⟨6, (some 54), none, (.q (.cnv .i64 (.t 53))), []⟩, ⟨7, (some 55), none, (.q (.bin .add (.k (.int .i64 1)) (.t 54))), []⟩, ⟨8, (some 56), none, (.q (.ssl 1 (.t 49) (some (.t 55)) none)), []⟩, ⟨9, (some 57), none, (.q (.fad 0 (.t 2))), []⟩, ⟨10, none, none, (.fz (.sto 1 (.t 57) (.t 56))), []⟩]
@[simp] def l_RReadUint_42 (_ : Unit) : List EOp := ⟨0, (some 48), none, (.q (.fad 0 (.t 2))), []⟩ :: ⟨1, (some 49), none, (.q (.ldc (.t 48))), []⟩ :: ⟨2, (some 50), none, (.q (.fad 0 (.t 2))), []⟩ :: ⟨3, (some 51), none, (.q (.ldc (.t 50))), []⟩ :: ⟨4, (some 52), none, (.q (.isl 1 (.t 51) (.k (.int .i64 0)))), []⟩ :: ⟨5, (some 53), none, (.q (.ldc (.t 52))), []⟩ :: hid l_RReadUint_43
@[simp] def b_RReadUint_44 (_ : Unit) : EB := reg0 (hid l_RReadUint_42) 11
@[simp] def l_RReadUint_45 (_ : Unit) : List EOp := [⟨0, (some 58), none, (.q (.lda 2 (.t 2))), []⟩, ⟨1, (some 59), none, (.q (.mov (.t 6))), []⟩, ⟨2, none, none, (.fz (.sto 2 (.t 4) (.t 58))), []⟩, ⟨3, (some 5), none, (.q (.mov (.t 59))), []⟩]
@[simp] def b_RReadUint_46 (_ : Unit) : EB := reg0 (hid l_RReadUint_45) 4
@[simp] def b_RReadUint_47 (_ : Unit) : EB := .seq (hid b_RReadUint_46) .ret
@[simp] def b_RReadUint_48 (_ : Unit) : EB := .seq (hid b_RReadUint_44) (hid b_RReadUint_47)
@[simp] def b_RReadUint_49 (_ : Unit) : EB := .seq (hid b_RReadUint_41) (hid b_RReadUint_48)
@[simp] def b_RReadUint_50 (_ : Unit) : EB := .seq (hid b_RReadUint_34) (hid b_RReadUint_49)
@[simp] def b_RReadUint_51 (_ : Unit) : EB := .seq (hid b_RReadUint_27) (hid b_RReadUint_50)
@[simp] def b_RReadUint_52 (_ : Unit) : EB := .seq (hid b_RReadUint_23) (hid b_RReadUint_51)
@[simp] def b_RReadUint_53 (_ : Unit) : EB := .seq (hid b_RReadUint_16) (hid b_RReadUint_52)
@[simp] def b_RReadUint_54 (_ : Unit) : EB := .seq (hid b_RReadUint_9) (hid b_RReadUint_53)
@[simp] def b_RReadUint_55 (_ : Unit) : EB := .seq (hid b_RReadUint_2) (hid b_RReadUint_54)
def c_RReadUint : EB × List QOp × Nat := ((hid b_RReadUint_55), [(.lda 2 (.t 4)), (.mov (.t 5))], 60)
theorem k_RReadUint : cfun Tryz.prog 54 = some c_RReadUint := by kernel_rfl

@[simp] def l_RReadHash_1 (_ : Unit) : List EOp := [⟨0, (some 1), none, (.q (.box 70 (.t 0))), []⟩, ⟨1, (some 2), none, (.q (.alloc 70 [(.slice none 0 0), (.int .i64 0)])), []⟩, ⟨2, (some 3), none, (.q (.alloc 48 zU8)), []⟩]
@[simp] def b_RReadHash_2 (_ : Unit) : EB := reg0 (hid l_RReadHash_1) 3
@[simp] def l_RReadHash_3 (_ : Unit) : List EOp := [⟨0, (some 4), none, (.q (.alloc 48 zU8)), []⟩]
@[simp] def b_RReadHash_4 (_ : Unit) : EB := reg0 (hid l_RReadHash_3) 1
@[simp] def l_RReadHash_5 (_ : Unit) : List EOp := [⟨0, (some 6), none, (.q (.fad 1 (.t 1))), []⟩, ⟨1, (some 7), none, (.q (.ldc (.t 6))), []⟩, ⟨2, (some 8), none, (.q (.bin .neq (.t 7) (.k (.int .i64 0)))), []⟩]
@[simp] def b_RReadHash_6 (_ : Unit) : EB := reg0 (hid l_RReadHash_5) 3
@[simp] def l_RReadHash_7 (_ : Unit) : List EOp := [⟨0, (some 9), none, (.q (.lda 2 (.t 1))), []⟩, ⟨1, (some 10), none, (.q (.lda 32 (.t 4))), []⟩, ⟨2, none, none, (.fz (.sto 2 (.t 2) (.t 9))), [1]⟩, ⟨3, none, none, (.sto 32 (.t 3) (.t 10)), []⟩]
@[simp] def b_RReadHash_8 (_ : Unit) : EB := reg1 (hid l_RReadHash_7) 4
@[simp] def b_RReadHash_9 (_ : Unit) : EB := .seq (hid b_RReadHash_8) .ret
@[simp] def b_RReadHash_10 (_ : Unit) : EB := .cond (.t 8) (hid b_RReadHash_9) .skip
@[simp] def b_RReadHash_11 (_ : Unit) : EB := .seq (hid b_RReadHash_6) (hid b_RReadHash_10)
@[simp] def l_RReadHash_12 (_ : Unit) : List EOp := [⟨0, (some 11), none, (.q (.fad 0 (.t 1))), []⟩, ⟨1, (some 12), none, (.q (.ldc (.t 11))), []⟩, ⟨2, (some 13), none, (.q (.len (.t 12))), []⟩, ⟨3, (some 14), none, (.q (.bin .lss (.t 13) (.k (.int .i64 32)))), []⟩]
@[simp] def b_RReadHash_13 (_ : Unit) : EB := reg0 (hid l_RReadHash_12) 4
@[simp] def l_RReadHash_14 (_ : Unit) : List EOp := [⟨0, (some 15), none, (.q (.lda 2 (.t 1))), []⟩, ⟨2, (some 17), none, (.q (.lda 32 (.t 4))), []⟩, ⟨1, (some 16), none, (.call 55 [(.t 15), (.k (.int .i64 12))]), [2]⟩, ⟨3, none, none, (.fz (.sto 2 (.t 2) (.t 16))), [2]⟩, ⟨4, none, none, (.sto 32 (.t 3) (.t 17)), []⟩]
@[simp] def b_RReadHash_15 (_ : Unit) : EB := reg1 (hid l_RReadHash_14) 5
@[simp] def b_RReadHash_16 (_ : Unit) : EB := .seq (hid b_RReadHash_15) .ret
@[simp] def b_RReadHash_17 (_ : Unit) : EB := .cond (.t 14) (hid b_RReadHash_16) .skip
@[simp] def b_RReadHash_18 (_ : Unit) : EB := .seq (hid b_RReadHash_13) (hid b_RReadHash_17)
@[simp] def l_RReadHash_19 (_ : Unit) : List EOp := [⟨0, (some 5), none, (.q (.mov (.k (.int .i64 0)))), []⟩]
@[simp] def b_RReadHash_20 (_ : Unit) : EB := reg0 (hid l_RReadHash_19) 1
@[simp] def l_RReadHash_21 (_ : Unit) : List EOp := [⟨0, (some 18), none, (.q (.mov (.t 5))), []⟩, ⟨1, (some 19), none, (.q (.bin .lss (.t 18) (.k (.int .i64 32)))), []⟩]
@[simp] def b_RReadHash_22 (_ : Unit) : EB := reg0 (hid l_RReadHash_21) 2
@[simp] def b_RReadHash_23 (_ : Unit) : EB := .cond (.t 19) .skip (.exit 0)
@[simp] def b_RReadHash_24 (_ : Unit) : EB := .seq (hid b_RReadHash_22) (hid b_RReadHash_23)
@[simp] def l_RReadHash_26 (_ : Unit) : List EOp := [⟨6, (some 28), none, (.q (.iad 32 1 (.t 4) (.t 22))), []⟩, ⟨7, none, none, (.sto 1 (.t 28) (.t 27)), []⟩]
@[simp] def l_RReadHash_25 (_ : Unit) : List EOp := ⟨0, (some 22), none, (.q (.mov (.t 5))), []⟩ :: ⟨1, (some 23), none, (.q (.fad 0 (.t 1))), []⟩ :: ⟨2, (some 24), none, (.q (.ldc (.t 23))), []⟩ :: ⟨3, (some 25), none, (.q (.mov (.t 5))), []⟩ :: ⟨4, (some 26), none, (.q (.isl 1 (.t 24) (.t 25))), []⟩ :: ⟨5, (some 27), none, (.q (.ldc (.t 26))), []⟩ :: hid l_RReadHash_26
@[simp] def b_RReadHash_27 (_ : Unit) : EB := reg0 (hid l_RReadHash_25) 8
@[simp] def b_RReadHash_28 (_ : Unit) : EB := .block 1 (hid b_RReadHash_27)
@[simp] def l_RReadHash_29 (_ : Unit) : List EOp := [⟨0, (some 20), none, (.q (.mov (.t 5))), []⟩, ⟨1, (some 21), none, (.q (.bin .add (.t 20) (.k (.int .i64 1)))), []⟩, ⟨2, (some 5), none, (.q (.mov (.t 21))), []⟩]
@[simp] def b_RReadHash_30 (_ : Unit) : EB := reg0 (hid l_RReadHash_29) 3
@[simp] def b_RReadHash_31 (_ : Unit) : EB := .seq (hid b_RReadHash_28) (hid b_RReadHash_30)
@[simp] def b_RReadHash_32 (_ : Unit) : EB := .seq (hid b_RReadHash_24) (hid b_RReadHash_31)
@[simp] def b_RReadHash_33 (_ : Unit) : EB := .loop (hid b_RReadHash_32)
@[simp] def b_RReadHash_34 (_ : Unit) : EB := .block 0 (hid b_RReadHash_33)
@[simp] def b_RReadHash_35 (_ : Unit) : EB := .seq (hid b_RReadHash_20) (hid b_RReadHash_34)
@[simp] def l_RReadHash_36 (_ : Unit) : List EOp := [⟨0, (some 29), none, (.q (.fad 0 (.t 1))), []⟩, ⟨1, (some 30), none, (.q (.ldc (.t 29))), []⟩, ⟨2, (some 31), none, (.q (.ssl 1 (.t 30) (some (.k (.int .i64 32))) none)), []⟩, ⟨3, (some 32), none, (.q (.fad 0 (.t 1))), []⟩, ⟨4, none, none, (.fz (.sto 1 (.t 32) (.t 31))), []⟩]
@[simp] def b_RReadHash_37 (_ : Unit) : EB := reg0 (hid l_RReadHash_36) 5
@[simp] def l_RReadHash_38 (_ : Unit) : List EOp := [⟨0, (some 33), none, (.q (.lda 2 (.t 1))), []⟩, ⟨1, (some 34), none, (.q (.lda 32 (.t 4))), []⟩, ⟨2, none, none, (.fz (.sto 2 (.t 2) (.t 33))), [1]⟩, ⟨3, none, none, (.sto 32 (.t 3) (.t 34)), []⟩]
@[simp] def b_RReadHash_39 (_ : Unit) : EB := reg1 (hid l_RReadHash_38) 4
@[simp] def b_RReadHash_40 (_ : Unit) : EB := .seq (hid b_RReadHash_39) .ret
@[simp] def b_RReadHash_41 (_ : Unit) : EB := .seq (hid b_RReadHash_37) (hid b_RReadHash_40)
@[simp] def b_RReadHash_42 (_ : Unit) : EB := .seq (hid b_RReadHash_35) (hid b_RReadHash_41)
@[simp] def b_RReadHash_43 (_ : Unit) : EB := .seq (hid b_RReadHash_18) (hid b_RReadHash_42)
@[simp] def b_RReadHash_44 (_ : Unit) : EB := .seq (hid b_RReadHash_11) (hid b_RReadHash_43)
@[simp] def b_RReadHash_45 (_ : Unit) : EB := .seq (hid b_RReadHash_4) (hid b_RReadHash_44)
@[simp] def b_RReadHash_46 (_ : Unit) : EB := .seq (hid b_RReadHash_2) (hid b_RReadHash_45)
def c_RReadHash : EB × List QOp × Nat := ((hid b_RReadHash_46), [(.lda 2 (.t 2)), (.lda 32 (.t 3))], 35)
theorem k_RReadHash : cfun Tryz.prog 29 = some c_RReadHash := by kernel_rfl

@[simp] def l_RReadCount_1 (_ : Unit) : List EOp := [⟨0, (some 2), none, (.q (.box 70 (.t 0))), []⟩, ⟨1, (some 4), none, (.q (.alloc 70 [(.slice none 0 0), (.int .i64 0)])), []⟩, ⟨2, (some 5), none, (.q (.mov (.k (.int .i64 0)))), []⟩]
@[simp] def b_RReadCount_2 (_ : Unit) : EB := reg0 (hid l_RReadCount_1) 3
@[simp] def l_RReadCount_3 (_ : Unit) : List EOp := [⟨0, (some 8), none, (.q (.mov (.t 1))), []⟩, ⟨1, (some 9), none, (.q (.bin .lss (.t 8) (.k (.int .i64 0)))), []⟩]
@[simp] def b_RReadCount_4 (_ : Unit) : EB := reg0 (hid l_RReadCount_3) 2
@[simp] def l_RReadCount_5 (_ : Unit) : List EOp := [⟨0, (some 1), none, (.q (.mov (.k (.int .i64 0)))), []⟩]
@[simp] def b_RReadCount_6 (_ : Unit) : EB := reg0 (hid l_RReadCount_5) 1
@[simp] def b_RReadCount_7 (_ : Unit) : EB := .cond (.t 9) (hid b_RReadCount_6) .skip
@[simp] def b_RReadCount_8 (_ : Unit) : EB := .seq (hid b_RReadCount_4) (hid b_RReadCount_7)
@[simp] def l_RReadCount_10 (_ : Unit) : List EOp := [⟨6, (some 16), none, (.q (.ext 1 (.t 10))), []⟩, ⟨7, (some 6), none, (.q (.alloc 70 [(.slice none 0 0), (.int .i64 0)])), []⟩, ⟨8, none, none, (.fz (.sto 2 (.t 6) (.t 15))), []⟩, ⟨9, (some 7), none, (.q (.mov (.t 16))), []⟩]
@[simp] def l_RReadCount_9 (_ : Unit) : List EOp := ⟨0, (some 11), none, (.q (.lda 2 (.t 2))), []⟩ :: ⟨1, (some 12), none, (.q (.mov (.t 1))), []⟩ :: ⟨2, (some 13), none, (.q (.cnv .u64 (.t 12))), []⟩ :: ⟨3, (some 14), none, (.call 54 [(.t 11), (.t 13)]), []⟩ :: ⟨4, (some 10), none, (.q (.mov (.t 14))), []⟩ :: ⟨5, (some 15), none, (.q (.ext 0 (.t 10))), []⟩ :: hid l_RReadCount_10
@[simp] def b_RReadCount_11 (_ : Unit) : EB := reg0 (hid l_RReadCount_9) 10
@[simp] def l_RReadCount_12 (_ : Unit) : List EOp := [⟨0, (some 17), none, (.q (.fad 1 (.t 6))), []⟩, ⟨1, (some 18), none, (.q (.ldc (.t 17))), []⟩, ⟨2, (some 19), none, (.q (.bin .neq (.t 18) (.k (.int .i64 0)))), []⟩]
@[simp] def b_RReadCount_13 (_ : Unit) : EB := reg0 (hid l_RReadCount_12) 3
@[simp] def l_RReadCount_14 (_ : Unit) : List EOp := [⟨0, (some 20), none, (.q (.lda 2 (.t 2))), []⟩, ⟨1, (some 21), none, (.q (.fad 1 (.t 6))), []⟩, ⟨2, (some 22), none, (.q (.ldc (.t 21))), []⟩, ⟨3, (some 23), none, (.call 55 [(.t 20), (.t 22)]), []⟩, ⟨4, none, none, (.fz (.sto 2 (.t 4) (.t 23))), []⟩, ⟨5, (some 5), none, (.q (.mov (.k (.int .i64 0)))), []⟩]
@[simp] def b_RReadCount_15 (_ : Unit) : EB := reg0 (hid l_RReadCount_14) 6
@[simp] def b_RReadCount_16 (_ : Unit) : EB := .seq (hid b_RReadCount_15) .ret
@[simp] def b_RReadCount_17 (_ : Unit) : EB := .cond (.t 19) (hid b_RReadCount_16) .skip
@[simp] def b_RReadCount_18 (_ : Unit) : EB := .seq (hid b_RReadCount_13) (hid b_RReadCount_17)
@[simp] def l_RReadCount_19 (_ : Unit) : List EOp := [⟨0, (some 24), none, (.q (.mov (.t 7))), []⟩, ⟨1, (some 25), none, (.q (.fad 0 (.t 6))), []⟩, ⟨2, (some 26), none, (.q (.ldc (.t 25))), []⟩, ⟨3, (some 27), none, (.q (.len (.t 26))), []⟩, ⟨4, (some 28), none, (.q (.cnv .u64 (.t 27))), []⟩, ⟨5, (some 29), none, (.q (.bin .gtr (.t 24) (.t 28))), []⟩]
@[simp] def b_RReadCount_20 (_ : Unit) : EB := reg0 (hid l_RReadCount_19) 6
@[simp] def l_RReadCount_21 (_ : Unit) : List EOp := [⟨0, (some 30), none, (.q (.lda 2 (.t 2))), []⟩, ⟨1, (some 31), none, (.call 55 [(.t 30), (.k (.int .i64 2))]), []⟩, ⟨2, none, none, (.fz (.sto 2 (.t 4) (.t 31))), []⟩, ⟨3, (some 5), none, (.q (.mov (.k (.int .i64 0)))), []⟩]
@[simp] def b_RReadCount_22 (_ : Unit) : EB := reg0 (hid l_RReadCount_21) 4
@[simp] def b_RReadCount_23 (_ : Unit) : EB := .seq (hid b_RReadCount_22) .ret
@[simp] def b_RReadCount_24 (_ : Unit) : EB := .cond (.t 29) (hid b_RReadCount_23) .skip
@[simp] def b_RReadCount_25 (_ : Unit) : EB := .seq (hid b_RReadCount_20) (hid b_RReadCount_24)
@[simp] def l_RReadCount_26 (_ : Unit) : List EOp := [⟨0, (some 32), none, (.q (.lda 2 (.t 6))), []⟩, ⟨1, (some 33), none, (.q (.mov (.t 7))), []⟩, ⟨2, (some 34), none, (.q (.cnv .i64 (.t 33))), []⟩, ⟨3, none, none, (.fz (.sto 2 (.t 4) (.t 32))), []⟩, ⟨4, (some 5), none, (.q (.mov (.t 34))), []⟩]
@[simp] def b_RReadCount_27 (_ : Unit) : EB := reg0 (hid l_RReadCount_26) 5
@[simp] def b_RReadCount_28 (_ : Unit) : EB := .seq (hid b_RReadCount_27) .ret
@[simp] def b_RReadCount_29 (_ : Unit) : EB := .seq (hid b_RReadCount_25) (hid b_RReadCount_28)
@[simp] def b_RReadCount_30 (_ : Unit) : EB := .seq (hid b_RReadCount_18) (hid b_RReadCount_29)
@[simp] def b_RReadCount_31 (_ : Unit) : EB := .seq (hid b_RReadCount_11) (hid b_RReadCount_30)
@[simp] def b_RReadCount_32 (_ : Unit) : EB := .seq (hid b_RReadCount_8) (hid b_RReadCount_31)
@[simp] def b_RReadCount_33 (_ : Unit) : EB := .seq (hid b_RReadCount_2) (hid b_RReadCount_32)
def c_RReadCount : EB × List QOp × Nat := ((hid b_RReadCount_33), [(.lda 2 (.t 4)), (.mov (.t 5))], 35)
theorem k_RReadCount : cfun Tryz.prog 28 = some c_RReadCount := by kernel_rfl

@[simp] def l_RDone_1 (_ : Unit) : List EOp := [⟨0, (some 1), none, (.q (.box 70 (.t 0))), []⟩, ⟨1, (some 2), none, (.q (.mov (.k (.int .i64 0)))), []⟩]
@[simp] def b_RDone_2 (_ : Unit) : EB := reg0 (hid l_RDone_1) 2
@[simp] def l_RDone_4 (_ : Unit) : List EOp := [⟨6, (some 9), (some (6, true)), (.q (.len (.t 8))), []⟩, ⟨7, (some 10), (some (6, true)), (.q (.bin .gtr (.t 9) (.k (.int .i64 0)))), []⟩, ⟨8, (some 11), none, (.q (.pick (.t 6) (.t 10) (.k (.bool false)))), []⟩]
@[simp] def l_RDone_3 (_ : Unit) : List EOp := ⟨0, (some 3), none, (.q (.fad 1 (.t 1))), []⟩ :: ⟨1, (some 4), none, (.q (.ldc (.t 3))), []⟩ :: ⟨2, (some 5), none, (.q (.bin .eql (.t 4) (.k (.int .i64 0)))), []⟩ :: ⟨3, (some 6), none, (.q (.mov (.t 5))), []⟩ :: ⟨4, (some 7), (some (6, true)), (.q (.fad 0 (.t 1))), []⟩ :: ⟨5, (some 8), (some (6, true)), (.q (.ldc (.t 7))), []⟩ :: hid l_RDone_4
@[simp] def b_RDone_5 (_ : Unit) : EB := reg0 (hid l_RDone_3) 9
@[simp] def l_RDone_6 (_ : Unit) : List EOp := [⟨0, (some 2), none, (.q (.mov (.k (.int .i64 3)))), []⟩]
@[simp] def b_RDone_7 (_ : Unit) : EB := reg0 (hid l_RDone_6) 1
@[simp] def b_RDone_8 (_ : Unit) : EB := .seq (hid b_RDone_7) .ret
@[simp] def b_RDone_9 (_ : Unit) : EB := .cond (.t 11) (hid b_RDone_8) .skip
@[simp] def b_RDone_10 (_ : Unit) : EB := .seq (hid b_RDone_5) (hid b_RDone_9)
@[simp] def l_RDone_11 (_ : Unit) : List EOp := [⟨0, (some 12), none, (.q (.fad 1 (.t 1))), []⟩, ⟨1, (some 13), none, (.q (.ldc (.t 12))), []⟩, ⟨2, (some 2), none, (.q (.mov (.t 13))), []⟩]
@[simp] def b_RDone_12 (_ : Unit) : EB := reg0 (hid l_RDone_11) 3
@[simp] def b_RDone_13 (_ : Unit) : EB := .seq (hid b_RDone_12) .ret
@[simp] def b_RDone_14 (_ : Unit) : EB := .seq (hid b_RDone_10) (hid b_RDone_13)
@[simp] def b_RDone_15 (_ : Unit) : EB := .seq (hid b_RDone_2) (hid b_RDone_14)
def c_RDone : EB × List QOp × Nat := ((hid b_RDone_15), [(.mov (.t 2))], 14)
theorem k_RDone : cfun Tryz.prog 30 = some c_RDone := by kernel_rfl


/-- The document's reader: what is left, the first error. -/
def rvC (b : List UInt8) (e : Nat) : List EC := [.fz (.sl 1 (bsv b)), .fz (.lit (.int .i64 e))]
def RV (b : List UInt8) (e : Nat) : EV := .v (.agg [.fz (.sl 1 (bsv b)), .fz (.lit (.int .i64 e))])

theorem Rfail_ok (b : List UInt8) (e k : Nat) : ECalls Tryz.prog 55 [RV b e, I .i64 k] [] fun y H' => H' = [] ∧ y = RV b (if e = 0 then k else e) := by
  refine ecalls k_Rfail ?_
  simp [c_Rfail, RV, I]
  refine alt (fun h => ?_) (fun h => ?_)
  · simp
    exact fin [] (by decide) rfl rfl rfl ⟨rfl, by simp [h]⟩
  · simp
    exact fin [] (by decide) rfl rfl rfl ⟨rfl, by simp [h]⟩

theorem RDone_ok (b : List UInt8) (e : Nat) : ECalls Tryz.prog 30 [RV b e] [] fun y H' => H' = [] ∧ y = I .i64 ((if e ≠ 0 then e else if b.length ≠ 0 then 3 else 0 : Nat) : Int) := by
  refine ecalls k_RDone ?_
  by_cases he : e = 0
  · subst he
    rcases b with _ | ⟨c, r⟩
    · simp [c_RDone, RV, I]
      exact fin [] (by decide) rfl rfl rfl ⟨rfl, rfl⟩
    · have hp : (0 : Int) < (r.length : Int) + 1 := by omega
      simp [c_RDone, RV, I, hp]
      exact fin [] (by decide) rfl rfl rfl ⟨rfl, rfl⟩
  · simp [c_RDone, RV, I, he]
    exact fin [] (by decide) rfl rfl rfl ⟨rfl, by simp [I, he]⟩

set_option maxHeartbeats 1000000 in
theorem Rnumber_ok (c0 : UInt8) (r : List UInt8) (many : Nat) (turned : Bool) (hm : many ≤ 8) (hl : r.length ≤ 1000000000) : ECalls Tryz.prog 74 [Bs (c0 :: r), I .i64 many, .lit (.bool turned)] [] fun y H' => H' = [] ∧ y = .tup [.c (.fz (.lit (.int .u64 (lowS r many (if turned then 255 else 0)).1))), .c (.fz (.lit (.int .i64 (lowS r many (if turned then 255 else 0)).2)))] := by
  obtain ⟨mask, hmask⟩ : ∃ mask : UInt8, (if turned then 255 else 0) = mask := ⟨_, rfl⟩
  rw [hmask]
  refine ecalls k_Rnumber ?_
  have w0 : IntKind.i64.wrap (1 + (many : Int)) = ((many + 1 : Nat) : Int) := by rw [wrap_i64 (by omega) (by omega)]; omega
  simp [c_Rnumber, Bs, I, w0, -Int.natCast_add]
  refine alt (fun h1 => ?_) (fun h1 => ?_)
  · have hS : lowS r many mask = (0, 12) := by rw [lowS, if_pos (by omega)]
    rw [hS]
    simp
    exact fin [] (by decide) rfl rfl rfl ⟨rfl, rfl⟩
  obtain ⟨ms, hms⟩ : ∃ ms, (r.take many).map (· ^^^ mask) = ms := ⟨_, rfl⟩
  have hml : ms.length = many := by rw [← hms, List.length_map, List.length_take]; omega
  simp
  refine eloop (α := Nat) (fun j => j ≤ many ∧ (0 < j → lowS r many mask = (valB ms, 0))) (fun j => many - j)
    (fun j => [Bs (c0 :: r), I .i64 many, .lit (.bool turned), .any, .any, .any, .any, .any, I .u64 (valB (ms.take j)), I .i64 ((j : Int) + 1), .any, .any, .any, .any, .any, .any, .any, .any, .any, .any, .any, .any, .any, .any, .any, .any, .any, .any, .any, .any, .any, .any, .any, .any, .any, .any, .any, .any, .any, .any]) (fun j => []) 0 []
    (by simp) (by simp [Bs, I, valB]) (by simp) (by simp) (by simp) (by simp) ?_
  rintro j ⟨hj, hS⟩
  simp [I, Bs]
  refine alt (fun hp => ?_) (fun hp => ?_)
  rotate_left
  · have : j = many := by omega
    subst this
    have hS' : lowS r j mask = (valB ms, 0) := by
      rcases Nat.eq_zero_or_pos j with h | h
      · subst h
        rw [lowS, if_neg (by omega), if_neg (by simp), hms]
      · exact hS h
    rw [hS', show ms.take j = ms from List.take_of_length_le (by omega)]
    simp
    exact fin [] (by decide) rfl rfl rfl ⟨rfl, rfl⟩
  obtain ⟨c, hc⟩ : ∃ c, r[j]? = some c := ⟨r[j]'(by omega), by simp⟩
  have hcb : (bsv (c0 :: r))[j + 1]? = some (cb c) := by rw [bsv_get (c := c)]; simpa using hc
  obtain ⟨x, hx⟩ : ∃ x, c ^^^ mask = x := ⟨_, rfl⟩
  have hmx : ms[j]? = some x := by rw [← hms, List.getElem?_map, List.getElem?_take, if_pos (by omega), hc, ← hx]; rfl
  have hts := take_snoc hmx
  have hv := val_lt (ms.take j)
  have hvl : (ms.take j).length = j := by rw [List.length_take, hml]; omega
  rw [hvl] at hv
  have hv8 : 256 ^ j ≤ 256 ^ 7 := Nat.pow_le_pow_right (by omega) (by omega)
  have hx8 := x.toNat_lt
  simp at hx8
  have w1 : IntKind.i64.wrap ((j : Int) + 1 + 1) = ((j + 1 : Nat) : Int) + 1 := by rw [wrap_i64 (by omega) (by omega)]; omega
  have w2 : IntKind.u64.wrap (x.toNat : Int) = x.toNat := wrap_u64 (by omega) (by omega)
  have w3 : IntKind.u64.wrap (256 * (valB (ms.take j) : Int)) = 256 * (valB (ms.take j) : Int) := wrap_u64 (by omega) (by omega)
  have w4 : IntKind.u64.wrap (256 * (valB (ms.take j) : Int) + (x.toNat : Int)) = ((256 * valB (ms.take j) + x.toNat : Nat) : Int) := by rw [wrap_u64 (by omega) (by omega)]; omega
  have i1 : ((j : Int) + 1).toNat = j + 1 := by omega
  have hz : j = 0 → 0 < many → (x = 0 ↔ r[0]? = some mask) := by
    rintro rfl _
    rw [hc, ← hx]
    constructor
    · intro h; rw [UInt8.xor_eq_zero_iff.1 h]
    · intro h; rw [Option.some.inj h]; simp
  have hfirst : ∀ (h0 : j = 0), x ≠ 0 → lowS r many mask = (valB ms, 0) := by
    intro h0 hx0
    rw [lowS, if_neg (by omega), if_neg, hms]
    rintro ⟨q1, q2⟩
    exact hx0 ((hz h0 q1).2 q2)
  have hbad : ∀ (h0 : j = 0), x = 0 → lowS r many mask = (0, 3) := by
    intro h0 hx0
    rw [lowS, if_neg (by omega), if_pos ⟨by omega, (hz h0 (by omega)).1 hx0⟩]
  have x0 : (x.toNat : Int) = 0 → x = 0 := fun h => by apply UInt8.toNat_inj.1; simpa using h
  simp [hcb, cb, i1]
  refine ⟨by omega, ?_⟩
  cases turned
  · simp at hmask
    subst hmask
    simp at hx
    subst hx
    simp
    refine alt (fun h0 => ?_) (fun h0 => ?_)
    · have h0t : ((j : Int) + 1 = 1) = True := eq_true (by omega)
      simp [h0t]
      refine alt (fun hz0 => ?_) (fun hz0 => ?_)
      · rw [hbad (by omega) (x0 (by omega))]
        simp
        exact fin [] (by decide) rfl rfl rfl ⟨rfl, rfl⟩
      · simp [w1, w2, w3, w4, -Int.natCast_add]
        exact round (j + 1) [] ⟨by omega, fun _ => hfirst (by omega) (fun e => hz0 (by rw [e]; rfl))⟩ (by omega) (by simp [hts, val_snoc]) (by simp) (by simp) (by simp) (by simp)
    · have h0t : ((j : Int) + 1 = 1) = False := eq_false (by omega)
      simp [h0t, w1, w2, w3, w4, -Int.natCast_add]
      exact round (j + 1) [] ⟨by omega, fun _ => hS (by omega)⟩ (by omega) (by simp [hts, val_snoc]) (by simp) (by simp) (by simp) (by simp)
  · simp at hmask
    subst hmask
    have w5 := sub255 c
    rw [hx] at w5
    simp [w5]
    refine alt (fun h0 => ?_) (fun h0 => ?_)
    · have h0t : ((j : Int) + 1 = 1) = True := eq_true (by omega)
      simp [h0t]
      refine alt (fun hz0 => ?_) (fun hz0 => ?_)
      · rw [hbad (by omega) (x0 (by omega))]
        simp
        exact fin [] (by decide) rfl rfl rfl ⟨rfl, rfl⟩
      · simp [w1, w2, w3, w4, -Int.natCast_add]
        exact round (j + 1) [] ⟨by omega, fun _ => hfirst (by omega) (fun e => hz0 (by rw [e]; rfl))⟩ (by omega) (by simp [hts, val_snoc]) (by simp) (by simp) (by simp) (by simp)
    · have h0t : ((j : Int) + 1 = 1) = False := eq_false (by omega)
      simp [h0t, w1, w2, w3, w4, -Int.natCast_add]
      exact round (j + 1) [] ⟨by omega, fun _ => hS (by omega)⟩ (by omega) (by simp [hts, val_snoc]) (by simp) (by simp) (by simp) (by simp)

theorem RReadUint_ok (b : List UInt8) (most : Nat) (hl : b.length ≤ 1000000000) : ECalls Tryz.prog 54 [RV b 0, I .u64 most] [] fun y H' => H' = [] ∧ y = .tup [.agg (rvC (b.drop (numS b most).2.2) (numS b most).1), .c (.fz (.lit (.int .u64 (numS b most).2.1)))] := by
  refine ecalls k_RReadUint ?_
  simp [c_RReadUint, RV, I]
  rcases b with _ | ⟨c, r⟩
  · simp
    refine call0 (Rfail_ok [] 0 12) (by simp [Ptr, NP, I, R, RO, WO, RdO, Bs, EV.lit, RV]) ?_
    rintro y H' ⟨rfl, rfl⟩
    refine ⟨.inl (by simp [Ptr, NP, I, R, RO, WO, RdO, Bs, EV.lit, RV]), le_ok rfl, ?_⟩
    simp [Ptr, NP, I, R, RO, WO, RdO, Bs, EV.lit, RV]
    exact fin [] (by decide) rfl rfl rfl ⟨rfl, rfl⟩
  have hcl := c.toNat_lt
  simp at hcl hl
  simp [bsv_cons, cb]
  refine alt (fun h8 => ?_) (fun h8 => ?_)
  · have hi : numS (c :: r) most = (3, 0, 0) := by simp only [numS]; rw [if_pos (by omega)]
    rw [hi]
    simp
    refine call0 (Rfail_ok (c :: r) 0 3) (by simp [RV, I, bsv_cons, cb]) ?_
    rintro y H' ⟨rfl, rfl⟩
    simp [RV]
    exact fin [] (by decide) rfl rfl rfl ⟨rfl, rfl⟩
  have h8' : ¬ 8 < c.toNat := by omega
  have w0 : IntKind.i64.wrap (c.toNat : Int) = c.toNat := wrap_i64 (by omega) (by omega)
  simp [w0]
  refine call0 (Rnumber_ok c r c.toNat false (by omega) (by omega)) (by simp [Bs, I, bsv_cons, cb, EV.lit]) ?_
  rintro y H' ⟨rfl, rfl⟩
  have h1 := low_lt r c.toNat 0 (by omega)
  have h2 := low_len r c.toNat 0
  obtain ⟨q, hq⟩ : ∃ q, lowS r c.toNat 0 = q := ⟨_, rfl⟩
  simp only [Bool.false_eq_true, if_false, hq]
  rw [hq] at h1 h2
  have hi0 : numS (c :: r) most = if q.2 ≠ 0 then (q.2, 0, 0) else if most < q.1 then (4, 0, 0) else (0, q.1, 1 + c.toNat) := by
    simp only [numS, if_neg h8', hq]
  by_cases hq2 : q.2 = 0
  · by_cases hq1 : most < q.1
    · have hi : numS (c :: r) most = (4, 0, 0) := by rw [hi0, if_neg (by omega), if_pos hq1]
      rw [hi]
      simp [hq2, show ((most : Int) < (q.1 : Int)) from by omega]
      refine call0 (Rfail_ok (c :: r) 0 4) (by simp [RV, I, bsv_cons, cb]) ?_
      rintro y H' ⟨rfl, rfl⟩
      simp [RV]
      exact fin [] (by decide) rfl rfl rfl ⟨rfl, rfl⟩
    · have hi : numS (c :: r) most = (0, q.1, 1 + c.toNat) := by rw [hi0, if_neg (by omega), if_neg hq1]
      have h3 := h2 hq2
      rw [hi]
      have w5 : IntKind.i64.wrap (1 + (c.toNat : Int)) = ((c.toNat + 1 : Nat) : Int) := by rw [wrap_i64 (by omega) (by omega)]; omega
      simp [hq2, show ¬ ((most : Int) < (q.1 : Int)) from by omega, w0, w5, bsv_cons, cb, -Int.natCast_add]
      refine ⟨by omega, ?_⟩
      have e1 : List.take r.length r = r := by simp
      simp [Nat.add_comm 1]
      exact fin [] (by decide) rfl rfl rfl ⟨rfl, by simp [rvC]⟩
  · have hi : numS (c :: r) most = (q.2, 0, 0) := by rw [hi0, if_pos hq2]
    rw [hi]
    simp [hq2]
    refine call0 (Rfail_ok (c :: r) 0 q.2) (by simp [RV, I, bsv_cons, cb]) ?_
    rintro y H' ⟨rfl, rfl⟩
    simp [RV]
    exact fin [] (by decide) rfl rfl rfl ⟨rfl, rfl⟩

end Go.Proofs.YtpohjnhlhfbnaaaGreatDoor

namespace Go.Proofs.YtpohjnhlhfbnaaaGreatDoor
open Go Go.EW
set_option linter.unusedSimpArgs false
set_option linter.unusedVariables false

@[simp] def l_RdCount_1 (_ : Unit) : List EOp := [⟨0, (some 4), none, (.q (.mov (.k (.int .i64 0)))), []⟩]
@[simp] def b_RdCount_2 (_ : Unit) : EB := reg0 (hid l_RdCount_1) 1
@[simp] def l_RdCount_3 (_ : Unit) : List EOp := [⟨0, (some 8), none, (.q (.mov (.t 0))), []⟩, ⟨1, (some 9), none, (.call 47 [(.t 8)]), []⟩]
@[simp] def b_RdCount_4 (_ : Unit) : EB := reg0 (hid l_RdCount_3) 2
@[simp] def l_RdCount_5 (_ : Unit) : List EOp := [⟨0, (some 4), none, (.q (.mov (.k (.int .i64 0)))), []⟩]
@[simp] def b_RdCount_6 (_ : Unit) : EB := reg0 (hid l_RdCount_5) 1
@[simp] def b_RdCount_7 (_ : Unit) : EB := .seq (hid b_RdCount_6) .ret
@[simp] def b_RdCount_8 (_ : Unit) : EB := .cond (.t 9) (hid b_RdCount_7) .skip
@[simp] def b_RdCount_9 (_ : Unit) : EB := .seq (hid b_RdCount_4) (hid b_RdCount_8)
@[simp] def l_RdCount_11 (_ : Unit) : List EOp := [⟨6, (some 16), none, (.q (.ext 0 (.t 10))), []⟩, ⟨7, (some 17), none, (.q (.ext 1 (.t 10))), []⟩, ⟨8, (some 18), none, (.q (.ext 2 (.t 10))), []⟩, ⟨9, (some 5), none, (.q (.mov (.t 16))), []⟩, ⟨10, (some 6), none, (.q (.mov (.t 17))), []⟩, ⟨11, (some 7), none, (.q (.mov (.t 18))), []⟩]
@[simp] def l_RdCount_10 (_ : Unit) : List EOp := ⟨0, (some 11), none, (.q (.mov (.t 0))), []⟩ :: ⟨1, (some 12), none, (.q (.mov (.t 1))), []⟩ :: ⟨2, (some 13), none, (.q (.minmax true [(.k (.int .i64 0)), (.t 12)])), []⟩ :: ⟨3, (some 14), none, (.q (.cnv .u64 (.t 13))), []⟩ :: ⟨4, (some 15), none, (.call 48 [(.t 11), (.t 14)]), []⟩ :: ⟨5, (some 10), none, (.q (.mov (.t 15))), []⟩ :: hid l_RdCount_11
@[simp] def b_RdCount_12 (_ : Unit) : EB := reg0 (hid l_RdCount_10) 12
@[simp] def l_RdCount_14 (_ : Unit) : List EOp := [⟨6, (some 25), (some (20, true)), (.q (.mov (.t 6))), []⟩, ⟨7, (some 26), (some (20, true)), (.q (.bin .sub (.t 24) (.t 25))), []⟩, ⟨8, (some 27), (some (20, true)), (.q (.cnv .u64 (.t 26))), []⟩, ⟨9, (some 28), (some (20, true)), (.q (.bin .gtr (.t 21) (.t 27))), []⟩, ⟨10, (some 29), none, (.q (.pick (.t 20) (.t 28) (.k (.bool false)))), []⟩]
@[simp] def l_RdCount_13 (_ : Unit) : List EOp := ⟨0, (some 19), none, (.q (.mov (.t 7))), []⟩ :: ⟨1, (some 20), none, (.q (.mov (.t 19))), []⟩ :: ⟨2, (some 21), (some (20, true)), (.q (.mov (.t 5))), []⟩ :: ⟨3, (some 22), (some (20, true)), (.q (.mov (.t 0))), []⟩ :: ⟨4, (some 23), (some (20, true)), (.call 49 [(.t 22)]), []⟩ :: ⟨5, (some 24), (some (20, true)), (.q (.len (.t 23))), []⟩ :: hid l_RdCount_14
@[simp] def b_RdCount_15 (_ : Unit) : EB := reg0 (hid l_RdCount_13) 11
@[simp] def l_RdCount_16 (_ : Unit) : List EOp := [⟨0, (some 30), none, (.q (.mov (.t 0))), []⟩, ⟨1, (some 31), none, (.q (.mki 68 (.k (.int .i64 2)))), []⟩, ⟨2, (some 32), none, (.call 50 [(.t 30), (.t 31)]), []⟩]
@[simp] def b_RdCount_17 (_ : Unit) : EB := reg0 (hid l_RdCount_16) 3
@[simp] def l_RdCount_18 (_ : Unit) : List EOp := [⟨0, (some 4), none, (.q (.mov (.k (.int .i64 0)))), []⟩]
@[simp] def b_RdCount_19 (_ : Unit) : EB := reg0 (hid l_RdCount_18) 1
@[simp] def b_RdCount_20 (_ : Unit) : EB := .seq (hid b_RdCount_19) .ret
@[simp] def b_RdCount_21 (_ : Unit) : EB := .seq (hid b_RdCount_17) (hid b_RdCount_20)
@[simp] def b_RdCount_22 (_ : Unit) : EB := .cond (.t 29) (hid b_RdCount_21) .skip
@[simp] def b_RdCount_23 (_ : Unit) : EB := .seq (hid b_RdCount_15) (hid b_RdCount_22)
@[simp] def l_RdCount_24 (_ : Unit) : List EOp := [⟨0, (some 33), none, (.q (.mov (.t 7))), []⟩]
@[simp] def b_RdCount_25 (_ : Unit) : EB := reg0 (hid l_RdCount_24) 1
@[simp] def l_RdCount_27 (_ : Unit) : List EOp := [⟨6, (some 40), none, (.q (.nilc (.t 34))), []⟩, ⟨7, (some 41), none, (.q (.fad 1 (.t 40))), []⟩, ⟨8, none, none, (.sto 1 (.t 41) (.t 39)), []⟩]
@[simp] def l_RdCount_26 (_ : Unit) : List EOp := ⟨0, (some 34), none, (.q (.mov (.t 0))), []⟩ :: ⟨1, (some 35), none, (.q (.nilc (.t 34))), []⟩ :: ⟨2, (some 36), none, (.q (.fad 1 (.t 35))), []⟩ :: ⟨3, (some 37), none, (.q (.ldc (.t 36))), []⟩ :: ⟨4, (some 38), none, (.q (.mov (.t 6))), []⟩ :: ⟨5, (some 39), none, (.q (.bin .add (.t 37) (.t 38))), []⟩ :: hid l_RdCount_27
@[simp] def b_RdCount_28 (_ : Unit) : EB := reg0 (hid l_RdCount_26) 9
@[simp] def b_RdCount_29 (_ : Unit) : EB := .cond (.t 33) (hid b_RdCount_28) .skip
@[simp] def b_RdCount_30 (_ : Unit) : EB := .seq (hid b_RdCount_25) (hid b_RdCount_29)
@[simp] def l_RdCount_31 (_ : Unit) : List EOp := [⟨0, (some 42), none, (.q (.mov (.t 5))), []⟩, ⟨1, (some 43), none, (.q (.cnv .i64 (.t 42))), []⟩, ⟨2, (some 4), none, (.q (.mov (.t 43))), []⟩]
@[simp] def b_RdCount_32 (_ : Unit) : EB := reg0 (hid l_RdCount_31) 3
@[simp] def b_RdCount_33 (_ : Unit) : EB := .seq (hid b_RdCount_32) .ret
@[simp] def b_RdCount_34 (_ : Unit) : EB := .seq (hid b_RdCount_30) (hid b_RdCount_33)
@[simp] def b_RdCount_35 (_ : Unit) : EB := .seq (hid b_RdCount_23) (hid b_RdCount_34)
@[simp] def b_RdCount_36 (_ : Unit) : EB := .seq (hid b_RdCount_12) (hid b_RdCount_35)
@[simp] def b_RdCount_37 (_ : Unit) : EB := .seq (hid b_RdCount_9) (hid b_RdCount_36)
@[simp] def b_RdCount_38 (_ : Unit) : EB := .seq (hid b_RdCount_2) (hid b_RdCount_37)
def c_RdCount : EB × List QOp × Nat := ((hid b_RdCount_38), [(.mov (.t 4))], 44)
theorem k_RdCount : cfun Tryz.prog 23 = some c_RdCount := by kernel_rfl


/-- How many things come: not more than there are bytes left. -/
def cntS (b : List UInt8) (most : Int) : Nat × Nat × Nat :=
  let q := numS b (max 0 most).toNat
  if q.1 ≠ 0 then (q.1, 0, 0) else if b.length - q.2.2 < q.2.1 then (2, 0, 0) else q

set_option maxHeartbeats 2000000 in
theorem RdCount_ok (l : List UInt8) (p : Nat) (most : Int) (hp : p ≤ l.length) (hl : l.length ≤ 1000000000) (hm : -9223372036854775808 ≤ most ∧ most ≤ 9223372036854775807) :
    ECalls Tryz.prog 23 [Ptr 0, I .i64 most] [RdO l p 0] fun y H' => H' = [some (RdO l (p + (cntS (l.drop p) most).2.2) (cntS (l.drop p) most).1)] ∧ y = I .i64 (cntS (l.drop p) most).2.1 := by
  obtain ⟨k, hk, hk2⟩ : ∃ k : Nat, (max 0 most).toNat = k ∧ (k : Int) = max 0 most := ⟨(max 0 most).toNat, rfl, by omega⟩
  have w0 : IntKind.u64.wrap (if 0 < most then most else 0) = (k : Int) := by
    have : (if 0 < most then most else 0) = (k : Int) := by split <;> omega
    rw [this]; simp [IntKind.wrap, IntKind.bits, IntKind.signed]; omega
  obtain ⟨b, hb⟩ : ∃ b, l.drop p = b := ⟨_, rfl⟩
  have hbl : b.length = l.length - p := by rw [← hb, List.length_drop]
  obtain ⟨n1, n2, n3, n4⟩ := numS_ok b k
  obtain ⟨q, hq⟩ : ∃ q, numS b k = q := ⟨_, rfl⟩
  have hc : cntS b most = if q.1 ≠ 0 then (q.1, 0, 0) else if b.length - q.2.2 < q.2.1 then (2, 0, 0) else q := by simp only [cntS, hk, hq]
  have hnum := number_ok l p k hp hl (by omega)
  rw [hb, hq] at hnum
  rw [hq] at n1 n2 n3 n4
  rw [hb]
  refine ecalls k_RdCount ?_
  simp [c_RdCount, Ptr, I]
  refine callH [0] (off_ok l p 0) (by simp [Ptr, NP, I, R, RO, RdO, Bs, EV.lit, RV, rvC]) (by simp [Ptr, NP, I, R, RO, RdO, Bs, EV.lit, RV, rvC]) (by simp) (by simp [Ptr, NP, I, R, RO, RdO, Bs, EV.lit, RV, rvC]) (by simp [Wok]) ?_
  rintro y H' ⟨rfl, rfl⟩
  refine ⟨.inl (by simp [Ptr, NP, I, R, RO, RdO, Bs, EV.lit, RV, rvC]), le_ok rfl, ?_⟩
  simp [w0, RdO]
  refine callH [0] (hnum) (by simp [Ptr, NP, I, R, RO, RdO, Bs, EV.lit, RV, rvC]) (by simp [Ptr, NP, I, R, RO, RdO, Bs, EV.lit, RV, rvC]) (by simp) (by simp [Ptr, NP, I, R, RO, RdO, Bs, EV.lit, RV, rvC]) (by simp [Wok]) ?_
  rintro y H' ⟨rfl, rfl⟩
  refine ⟨.inl (by simp [Ptr, NP, I, R, RO, RdO, Bs, EV.lit, RV, rvC]), le_ok rfl, ?_⟩
  simp [Ptr, NP, I, R, RO, RdO, Bs, EV.lit, RV, rvC]
  rcases Nat.eq_zero_or_pos q.1 with he | he
  · simp [he]
    refine callH [0] (rest_ok l p 0 hp) (by simp [Ptr, NP, I, R, RO, RdO, Bs, EV.lit, RV, rvC]) (by simp [Ptr, NP, I, R, RO, RdO, Bs, EV.lit, RV, rvC]) (by simp) (by simp [Ptr, NP, I, R, RO, RdO, Bs, EV.lit, RV, rvC]) (by simp [Wok]) ?_
    rintro y H' ⟨rfl, rfl⟩
    refine ⟨.inl (by simp [Ptr, NP, I, R, RO, RdO, Bs, EV.lit, RV, rvC]), le_ok rfl, ?_⟩
    have w2 : IntKind.u64.wrap (IntKind.i64.wrap ((b.length : Int) - (q.2.2 : Int))) = ((b.length - q.2.2 : Nat) : Int) := by
      rw [wrap_i64 (by omega) (by omega)]
      simp [IntKind.wrap, IntKind.bits, IntKind.signed]; omega
    have w3 : IntKind.i64.wrap ((p : Int) + (q.2.2 : Int)) = ((p + q.2.2 : Nat) : Int) := by rw [wrap_i64 (by omega) (by omega)]; simp
    simp [hb, RdO, Bs, w2]
    refine alt (fun hlt => ?_) (fun hlt => ?_)
    · rw [hc, if_neg (by omega), if_pos (by omega)]
      simp
      refine callH [0] (fail_ok l p 0 2) (by simp [Ptr, NP, I, R, RO, RdO, Bs, EV.lit, RV, rvC]) (by simp [Ptr, NP, I, R, RO, RdO, Bs, EV.lit, RV, rvC]) (by simp) (by simp [Ptr, NP, I, R, RO, RdO, Bs, EV.lit, RV, rvC]) (by simp [Wok]) ?_
      rintro y H' ⟨rfl, rfl⟩
      refine ⟨.inl (by simp [Ptr, NP, I, R, RO, RdO, Bs, EV.lit, RV, rvC]), le_ok rfl, ?_⟩
      simp [Ptr, NP, I, R, RO, RdO, Bs, EV.lit, RV, rvC]
      exact fin [] (by decide) rfl rfl rfl ⟨rfl, rfl⟩
    · have hcq : cntS b most = q := by
        rw [hc, if_neg (by omega), if_neg (by omega)]
      rw [hcq]
      have w4 : IntKind.i64.wrap (q.2.1 : Int) = (q.2.1 : Int) := wrap_i64 (by omega) (by omega)
      simp [w3, w4, he, -Int.natCast_add]
      exact fin [] (by decide) rfl rfl rfl ⟨rfl, rfl⟩
  · have he' : q.1 ≠ 0 := by omega
    rw [hc, if_pos he']
    simp [he', n4 he']
    exact fin [] (by decide) rfl rfl rfl ⟨rfl, rfl⟩

end Go.Proofs.YtpohjnhlhfbnaaaGreatDoor

namespace Go.Proofs.YtpohjnhlhfbnaaaGreatDoor
open Go Go.EW
set_option linter.unusedSimpArgs false
set_option linter.unusedVariables false

theorem RReadUint_off (b : List UInt8) (e most : Nat) (he : e ≠ 0) : ECalls Tryz.prog 54 [RV b e, I .u64 most] [] fun y H' => H' = [] ∧ y = .tup [.agg (rvC b e), .c (.fz (.lit (.int .u64 0)))] := by
  refine ecalls k_RReadUint ?_
  simp [c_RReadUint, RV, I, he]
  exact fin [] (by decide) rfl rfl rfl ⟨rfl, rfl⟩

theorem RReadHash_off (b : List UInt8) (e : Nat) (he : e ≠ 0) : ECalls Tryz.prog 29 [RV b e] [] fun y H' => H' = [] ∧ y = .tup [.agg (rvC b e), .agg (hc hz)] := by
  refine ecalls k_RReadHash ?_
  simp [c_RReadHash, RV, I, he]
  exact fin [] (by decide) rfl rfl rfl ⟨rfl, rfl⟩

theorem RReadHash_ok (b : List UInt8) (hl : b.length ≤ 1000000000) : ECalls Tryz.prog 29 [RV b 0] [] fun y H' => H' = [] ∧ y = .tup [.agg (rvC (b.drop (hashS b).2.2) (hashS b).1), .agg (hc (hashS b).2.1)] := by
  refine ecalls k_RReadHash ?_
  simp [c_RReadHash, RV, I]
  refine alt (fun hlt => ?_) (fun hlt => ?_)
  · have hi : hashS b = (12, hz, 0) := by rw [hashS, if_pos (by omega)]
    rw [hi]
    simp
    refine call0 (Rfail_ok b 0 12) (by simp [Ptr, NP, I, R, RO, RdO, Bs, EV.lit, RV, rvC]) ?_
    rintro y H' ⟨rfl, rfl⟩
    refine ⟨.inl (by simp [Ptr, NP, I, R, RO, RdO, Bs, EV.lit, RV, rvC]), le_ok rfl, ?_⟩
    simp [Ptr, NP, I, R, RO, RdO, Bs, EV.lit, RV, rvC]
    exact fin [] (by decide) rfl rfl rfl ⟨rfl, rfl⟩
  have hi : hashS b = (0, b.take 32, 32) := by rw [hashS, if_neg (by omega)]
  rw [hi]
  simp
  refine eloop (α := Nat) (fun i => i ≤ 32) (fun i => 32 - i)
    (fun i => [.any, Ptr 0, Ptr 1, Ptr 2, Ptr 3, I .i64 i, .any, .any, .any, .any, .any, .any, .any, .any, .any, .any, .any, .any, .any, .any, .any, .any, .any, .any, .any, .any, .any, .any, .any, .any, .any, .any, .any, .any, .any]) (fun i => [some (.box 70 (rvC b 0)), some (.box 70 [.fz (.lit (.slice none 0 0)), .fz (.lit (.int .i64 0))]), some (.box 48 (hc hz)), some (.box 48 (hc (b.take i ++ hz.drop i)))]) 0 [0, 16, 32, 48]
    (Nat.zero_le _) (by simp [Ptr, I]) (by simp [rvC]) (by simp) (by simp) (by simp) ?_
  intro i hi2
  simp [Ptr, I, rvC]
  refine alt (fun hlt => ?_) (fun hlt => ?_)
  · obtain ⟨c, hci⟩ : ∃ c, b[i]? = some c := ⟨b[i]'(by omega), by simp⟩
    have hcb := bsv_get hci
    have w2 : IntKind.i64.wrap ((i : Int) + 1) = ((i + 1 : Nat) : Int) := wrap_i64 (by omega) (by omega)
    have hm0 : min i b.length = i := by omega
    have hts : b.take (i + 1) = b.take i ++ [c] := take_snoc hci
    have hdz : List.drop (i + 1) (b.take i ++ hz.drop i) = hz.drop (i + 1) := by
      rw [List.drop_append, List.drop_eq_nil_of_le (by simp; omega), List.nil_append, List.drop_drop, List.length_take, hm0]
      congr 1; omega
    have htz : List.take i (b.take i ++ hz.drop i) = b.take i := by
      rw [List.take_append_of_le_length (by simp; omega), List.take_take, Nat.min_self]
    have e2 : hc (b.take (i + 1) ++ hz.drop (i + 1)) = hc (b.take i) ++ .fz (.lit (.int .u8 (c.toNat : Int))) :: hc (hz.drop (i + 1)) := by rw [hts]; simp [hc, hf]
    simp [hcb, cb, w2, hdz, htz, -Int.natCast_add]
    refine ⟨by omega, by omega, ?_⟩
    exact round (i + 1) [0, 1, 2, 3] (by omega) (by omega) (by simp) (by simp [e2]) (by simp) (by simp) (by simp)
  have hil : i = 32 := by omega
  subst hil
  simp
  have hm1 : min 32 b.length = 32 := by omega
  refine ⟨by omega, by omega, by omega, by omega, ?_⟩
  exact fin [] (by decide) (v := .tup [.agg (rvC (b.drop 32) 0), .agg (hc (b.take 32))]) (by simp [resV, resT, evT, asT, rvC, List.take_take, hm1]) (by simp [conR, conTs, conT, rvC]) rfl ⟨rfl, rfl⟩

set_option maxHeartbeats 1000000 in
theorem RReadCount_all0 (b : List UInt8) (e : Nat) (most : Int) (hl : b.length ≤ 1000000000) (hm : -9223372036854775808 ≤ most ∧ most ≤ 9223372036854775807) (q : Nat × Nat × Nat)
    (hq : ECalls Tryz.prog 54 [RV b e, I .u64 ((max 0 most).toNat : Nat)] [] fun y H' => H' = [] ∧ y = .tup [.agg (rvC (b.drop q.2.2) q.1), .c (.fz (.lit (.int .u64 q.2.1)))])
    (h1 : q.2.1 < 18446744073709551616) (h2 : q.2.2 ≤ b.length) (h3 : q.1 ≠ 0 → q.2.1 = 0 ∧ q.2.2 = 0) (h4 : e = 0 ∨ q.1 = e) :
    ECalls Tryz.prog 28 [RV b e, I .i64 most] [] fun y H' => H' = [] ∧ y = .tup [.agg (rvC (if q.1 ≠ 0 then b else if b.length - q.2.2 < q.2.1 then b else b.drop q.2.2) (if q.1 ≠ 0 then q.1 else if b.length - q.2.2 < q.2.1 then 2 else 0)), .c (.fz (.lit (.int .i64 ((if q.1 ≠ 0 then 0 else if b.length - q.2.2 < q.2.1 then 0 else q.2.1 : Nat) : Int))))] := by
  obtain ⟨k, hk, hk2⟩ : ∃ k : Nat, (max 0 most).toNat = k ∧ (k : Int) = max 0 most := ⟨(max 0 most).toNat, rfl, by omega⟩
  rw [hk] at hq
  refine ecalls k_RReadCount ?_
  simp [c_RReadCount, RV, I]
  refine alt (fun hneg => ?_) (fun hneg => ?_)
  · have hk0 : k = 0 := by omega
    subst hk0
    have w0 : IntKind.u64.wrap 0 = 0 := rfl
    simp [w0]
    refine call0 (hq) (by simp [Ptr, NP, I, R, RO, RdO, Bs, EV.lit, RV, rvC]) ?_
    rintro y H' ⟨rfl, rfl⟩
    refine ⟨.inl (by simp [Ptr, NP, I, R, RO, RdO, Bs, EV.lit, RV, rvC]), le_ok rfl, ?_⟩
    simp [Ptr, NP, I, R, RO, RdO, Bs, EV.lit, RV, rvC]
    refine alt (fun hq0 => ?_) (fun hq0 => ?_)
    · simp [hq0, (h3 hq0).2]
      have hfe : (if e = 0 then q.1 else e) = q.1 := by split <;> omega
      have hfa := Rfail_ok b e q.1
      rw [hfe] at hfa
      refine call0 (hfa) (by simp [Ptr, NP, I, R, RO, RdO, Bs, EV.lit, RV, rvC]) ?_
      rintro y H' ⟨rfl, rfl⟩
      refine ⟨.inl (by simp [Ptr, NP, I, R, RO, RdO, Bs, EV.lit, RV, rvC]), le_ok rfl, ?_⟩
      simp [Ptr, NP, I, R, RO, RdO, Bs, EV.lit, RV, rvC]
      exact fin [] (by decide) rfl rfl rfl ⟨rfl, rfl⟩
    have hq1 : q.1 = 0 := by omega
    have he0 : e = 0 := by omega
    subst he0
    have w2 : IntKind.u64.wrap (((b.length - q.2.2 : Nat) : Nat) : Int) = ((b.length - q.2.2 : Nat) : Int) := wrap_u64 (by omega) (by omega)
    simp [hq1, w2]
    refine alt (fun hlt => ?_) (fun hlt => ?_)
    · have hlt' : b.length - q.2.2 < q.2.1 := by omega
      simp [hlt']
      refine call0 (Rfail_ok b 0 2) (by simp [Ptr, NP, I, R, RO, RdO, Bs, EV.lit, RV, rvC]) ?_
      rintro y H' ⟨rfl, rfl⟩
      refine ⟨.inl (by simp [Ptr, NP, I, R, RO, RdO, Bs, EV.lit, RV, rvC]), le_ok rfl, ?_⟩
      simp [Ptr, NP, I, R, RO, RdO, Bs, EV.lit, RV, rvC]
      exact fin [] (by decide) rfl rfl rfl ⟨rfl, rfl⟩
    · have hlt' : ¬ b.length - q.2.2 < q.2.1 := by omega
      have w4 : IntKind.i64.wrap (q.2.1 : Int) = (q.2.1 : Int) := wrap_i64 (by omega) (by omega)
      simp [hlt', w4]
      exact fin [] (by decide) rfl rfl rfl ⟨rfl, rfl⟩
  · have w0 : IntKind.u64.wrap most = (k : Int) := by rw [wrap_u64 (by omega) (by omega)]; omega
    simp [w0]
    refine call0 (hq) (by simp [Ptr, NP, I, R, RO, RdO, Bs, EV.lit, RV, rvC]) ?_
    rintro y H' ⟨rfl, rfl⟩
    refine ⟨.inl (by simp [Ptr, NP, I, R, RO, RdO, Bs, EV.lit, RV, rvC]), le_ok rfl, ?_⟩
    simp [Ptr, NP, I, R, RO, RdO, Bs, EV.lit, RV, rvC]
    refine alt (fun hq0 => ?_) (fun hq0 => ?_)
    · simp [hq0, (h3 hq0).2]
      have hfe : (if e = 0 then q.1 else e) = q.1 := by split <;> omega
      have hfa := Rfail_ok b e q.1
      rw [hfe] at hfa
      refine call0 (hfa) (by simp [Ptr, NP, I, R, RO, RdO, Bs, EV.lit, RV, rvC]) ?_
      rintro y H' ⟨rfl, rfl⟩
      refine ⟨.inl (by simp [Ptr, NP, I, R, RO, RdO, Bs, EV.lit, RV, rvC]), le_ok rfl, ?_⟩
      simp [Ptr, NP, I, R, RO, RdO, Bs, EV.lit, RV, rvC]
      exact fin [] (by decide) rfl rfl rfl ⟨rfl, rfl⟩
    have hq1 : q.1 = 0 := by omega
    have he0 : e = 0 := by omega
    subst he0
    have w2 : IntKind.u64.wrap (((b.length - q.2.2 : Nat) : Nat) : Int) = ((b.length - q.2.2 : Nat) : Int) := wrap_u64 (by omega) (by omega)
    simp [hq1, w2]
    refine alt (fun hlt => ?_) (fun hlt => ?_)
    · have hlt' : b.length - q.2.2 < q.2.1 := by omega
      simp [hlt']
      refine call0 (Rfail_ok b 0 2) (by simp [Ptr, NP, I, R, RO, RdO, Bs, EV.lit, RV, rvC]) ?_
      rintro y H' ⟨rfl, rfl⟩
      refine ⟨.inl (by simp [Ptr, NP, I, R, RO, RdO, Bs, EV.lit, RV, rvC]), le_ok rfl, ?_⟩
      simp [Ptr, NP, I, R, RO, RdO, Bs, EV.lit, RV, rvC]
      exact fin [] (by decide) rfl rfl rfl ⟨rfl, rfl⟩
    · have hlt' : ¬ b.length - q.2.2 < q.2.1 := by omega
      have w4 : IntKind.i64.wrap (q.2.1 : Int) = (q.2.1 : Int) := wrap_i64 (by omega) (by omega)
      simp [hlt', w4]
      exact fin [] (by decide) rfl rfl rfl ⟨rfl, rfl⟩

theorem RReadCount_off (b : List UInt8) (e : Nat) (most : Int) (hl : b.length ≤ 1000000000) (hm : -9223372036854775808 ≤ most ∧ most ≤ 9223372036854775807) (he : e ≠ 0) : ECalls Tryz.prog 28 [RV b e, I .i64 most] [] fun y H' => H' = [] ∧ y = .tup [.agg (rvC b e), .c (.fz (.lit (.int .i64 0)))] := by
  have h := RReadCount_all0 b e most hl hm (e, 0, 0) (RReadUint_off b e _ he) (by simp) (by simp) (by simp) (.inr rfl)
  simpa [he] using h

theorem RReadCount_ok (b : List UInt8) (most : Int) (hl : b.length ≤ 1000000000) (hm : -9223372036854775808 ≤ most ∧ most ≤ 9223372036854775807) : ECalls Tryz.prog 28 [RV b 0, I .i64 most] [] fun y H' => H' = [] ∧ y = .tup [.agg (rvC (b.drop (cntS b most).2.2) (cntS b most).1), .c (.fz (.lit (.int .i64 (cntS b most).2.1)))] := by
  obtain ⟨q, hq⟩ : ∃ q, numS b (max 0 most).toNat = q := ⟨_, rfl⟩
  have hn := numS_ok b (max 0 most).toNat
  have hr := RReadUint_ok b (max 0 most).toNat hl
  rw [hq] at hn hr
  have h := RReadCount_all0 b 0 most hl hm q hr hn.1 hn.2.2.1 hn.2.2.2 (.inl rfl)
  have e1 : cntS b most = if q.1 ≠ 0 then (q.1, 0, 0) else if b.length - q.2.2 < q.2.1 then (2, 0, 0) else q := by simp only [cntS, hq]
  rw [e1]
  by_cases h1 : q.1 = 0
  · by_cases h2 : b.length - q.2.2 < q.2.1
    · simpa [h1, h2] using h
    · simpa [h1, h2] using h
  · simpa [h1] using h

theorem RdCount_off (l : List UInt8) (p e : Nat) (most : Int) (he : e ≠ 0) : ECalls Tryz.prog 23 [Ptr 0, I .i64 most] [RdO l p e] fun y H' => H' = [some (RdO l p e)] ∧ y = I .i64 0 := by
  refine ecalls k_RdCount ?_
  simp [c_RdCount, Ptr, I]
  refine callH [0] (off_ok l p e) (by simp [Ptr, NP, I, R, RO, RdO, Bs, EV.lit, RV, rvC]) (by simp [Ptr, NP, I, R, RO, RdO, Bs, EV.lit, RV, rvC]) (by simp) (by simp [Ptr, NP, I, R, RO, RdO, Bs, EV.lit, RV, rvC]) (by simp [Wok]) ?_
  rintro y H' ⟨rfl, rfl⟩
  refine ⟨.inl (by simp [Ptr, NP, I, R, RO, RdO, Bs, EV.lit, RV, rvC]), le_ok rfl, ?_⟩
  simp [he, RdO, I]
  exact fin [] (by decide) rfl rfl rfl ⟨rfl, rfl⟩

theorem RdCount_nil (most : Int) : ECalls Tryz.prog 23 [NP, I .i64 most] [] fun y H' => H' = [] ∧ y = I .i64 0 := by
  refine ecalls k_RdCount ?_
  simp [c_RdCount, NP, I]
  refine call0 off_nil (by simp [NP]) ?_
  rintro y H' ⟨rfl, rfl⟩
  simp
  exact fin [] (by decide) rfl rfl rfl ⟨rfl, rfl⟩

end Go.Proofs.YtpohjnhlhfbnaaaGreatDoor

namespace Go.Proofs.YtpohjnhlhfbnaaaGreatDoor
open Go Go.EW
set_option linter.unusedSimpArgs false
set_option linter.unusedVariables false
/- The readers, whether an error is there already or not. -/

def uS (b : List UInt8) (e most : Nat) : Nat × Nat × Nat := if e ≠ 0 then (e, 0, 0) else numS b most
def jS (b : List UInt8) (e : Nat) : Nat × Int × Nat := if e ≠ 0 then (e, 0, 0) else intS b
def nS (b : List UInt8) (e : Nat) (most : Int) : Nat × Nat × Nat := if e ≠ 0 then (e, 0, 0) else cntS b most
def yS (b : List UInt8) (e : Nat) (most : Int) : Nat × List UInt8 × Nat := if e ≠ 0 then (e, [], 0) else bytZ b most
def aS (b : List UInt8) (e : Nat) : Nat × List UInt8 × Nat := if e ≠ 0 then (e, hz, 0) else hashS b

theorem RdUint_all (l : List UInt8) (p e most : Nat) (hp : p ≤ l.length) (hl : l.length ≤ 1000000000) (hm : most < 18446744073709551616) : ECalls Tryz.prog 22 [Ptr 0, I .u64 most] [RdO l p e] fun y H' => H' = [some (RdO l (p + (uS (l.drop p) e most).2.2) (uS (l.drop p) e most).1)] ∧ y = I .u64 (uS (l.drop p) e most).2.1 := by
  by_cases he : e = 0
  · subst he; exact RdUint_ok l p most hp hl hm
  · simp only [uS, if_pos he]; exact RdUint_off l p e most he

theorem RdCount_all (l : List UInt8) (p e : Nat) (most : Int) (hp : p ≤ l.length) (hl : l.length ≤ 1000000000) (hm : -9223372036854775808 ≤ most ∧ most ≤ 9223372036854775807) : ECalls Tryz.prog 23 [Ptr 0, I .i64 most] [RdO l p e] fun y H' => H' = [some (RdO l (p + (nS (l.drop p) e most).2.2) (nS (l.drop p) e most).1)] ∧ y = I .i64 (nS (l.drop p) e most).2.1 := by
  by_cases he : e = 0
  · subst he; exact RdCount_ok l p most hp hl hm
  · simp only [nS, if_pos he]; exact RdCount_off l p e most he

theorem RdHash_all (l : List UInt8) (p e : Nat) (hp : p ≤ l.length) (hl : l.length ≤ 1000000000) : ECalls Tryz.prog 24 [Ptr 0] [RdO l p e] fun y H' => H' = [some (RdO l (p + (aS (l.drop p) e).2.2) (aS (l.drop p) e).1)] ∧ y = Ag (aS (l.drop p) e).2.1 := by
  by_cases he : e = 0
  · subst he; exact RdHash_ok l p hp hl
  · simp only [aS, if_pos he]; exact RdHash_off l p e he

theorem RReadUint_all (b : List UInt8) (e most : Nat) (hl : b.length ≤ 1000000000) : ECalls Tryz.prog 54 [RV b e, I .u64 most] [] fun y H' => H' = [] ∧ y = .tup [.agg (rvC (b.drop (uS b e most).2.2) (uS b e most).1), .c (.fz (.lit (.int .u64 (uS b e most).2.1)))] := by
  by_cases he : e = 0
  · subst he; exact RReadUint_ok b most hl
  · simp only [uS, if_pos he]; exact RReadUint_off b e most he

theorem RReadCount_all (b : List UInt8) (e : Nat) (most : Int) (hl : b.length ≤ 1000000000) (hm : -9223372036854775808 ≤ most ∧ most ≤ 9223372036854775807) : ECalls Tryz.prog 28 [RV b e, I .i64 most] [] fun y H' => H' = [] ∧ y = .tup [.agg (rvC (b.drop (nS b e most).2.2) (nS b e most).1), .c (.fz (.lit (.int .i64 (nS b e most).2.1)))] := by
  by_cases he : e = 0
  · subst he; exact RReadCount_ok b most hl hm
  · simp only [nS, if_pos he]; exact RReadCount_off b e most hl hm he

theorem RReadHash_all (b : List UInt8) (e : Nat) (hl : b.length ≤ 1000000000) : ECalls Tryz.prog 29 [RV b e] [] fun y H' => H' = [] ∧ y = .tup [.agg (rvC (b.drop (aS b e).2.2) (aS b e).1), .agg (hc (aS b e).2.1)] := by
  by_cases he : e = 0
  · subst he; exact RReadHash_ok b hl
  · simp only [aS, if_pos he]; exact RReadHash_off b e he

end Go.Proofs.YtpohjnhlhfbnaaaGreatDoor

namespace Go.Proofs.YtpohjnhlhfbnaaaGreatDoor
open Go Go.EW
set_option linter.unusedSimpArgs false
set_option linter.unusedVariables false
/- What was laid is read again; what was read was laid. -/
theorem val_dg (n : Nat) : valB (dg n) = n := by
  induction n using Nat.strongRecOn with
  | ind n ih =>
    by_cases h : n = 0
    · subst h; rfl
    · rw [dg_step h, val_snoc, ih (n / 256) (by omega), b8_nat]; omega
theorem dg_head {n : Nat} (h : n ≠ 0) : ∃ c r, dg n = c :: r ∧ c ≠ 0 := by
  obtain ⟨k, hk⟩ : ∃ k, nb n = k + 1 := ⟨nb n - 1, by have := nb_pos (n := n) (by omega); omega⟩
  refine ⟨b8 (n / 256 ^ k), be k n, by rw [dg, hk, be], ?_⟩
  have h1 := nb_lt n
  have h2 := nb_le (n := n) (by omega)
  rw [hk] at h1 h2
  rw [Nat.add_sub_cancel] at h2
  have hp := Nat.pow_pos (n := k) (show 0 < 256 by omega)
  have h3 : 1 ≤ n / 256 ^ k := (Nat.le_div_iff_mul_le hp).2 (by omega)
  have h4 : n / 256 ^ k < 256 := (Nat.div_lt_iff_lt_mul hp).2 (by rw [Nat.pow_succ, Nat.mul_comm] at h1; exact h1)
  intro h5
  have h6 := congrArg UInt8.toNat h5
  rw [b8_nat] at h6
  simp at h6
  omega
theorem xor_xor (m : UInt8) (l : List UInt8) : (l.map (· ^^^ m)).map (· ^^^ m) = l := by
  induction l with
  | nil => rfl
  | cons c r ih => rw [List.map_cons, List.map_cons, ih, UInt8.xor_assoc, UInt8.xor_self, UInt8.xor_zero]
theorem low_dg (n : Nat) (m : UInt8) (r : List UInt8) : lowS ((dg n).map (· ^^^ m) ++ r) (nb n) m = (n, 0) := by
  have hl : ((dg n).map (· ^^^ m)).length = nb n := by rw [List.length_map, dg_len]
  rw [lowS, if_neg (by rw [List.length_append]; omega), if_neg, List.take_left' hl, xor_xor, val_dg]
  rintro ⟨h1, h2⟩
  have hn : n ≠ 0 := by rintro rfl; simp [nb_zero] at h1
  obtain ⟨c, s, hc, hz⟩ := dg_head hn
  rw [hc] at h2
  simp at h2
  have h3 := congrArg (· ^^^ m) h2
  simp only [UInt8.xor_assoc, UInt8.xor_self, UInt8.xor_zero] at h3
  exact hz h3
theorem low_dg0 (n : Nat) (r : List UInt8) : lowS (dg n ++ r) (nb n) 0 = (n, 0) := by
  have h := low_dg n 0 r
  have : (dg n).map (· ^^^ (0 : UInt8)) = dg n := by simp
  rwa [this] at h
theorem num_rt {n most : Nat} (h : n < 18446744073709551616) (hm : n ≤ most) (r : List UInt8) : numS (uintB n ++ r) most = (0, n, (uintB n).length) := by
  have h8 := nb_8 h
  have e : (b8 (nb n)).toNat = nb n := by rw [b8_nat]; omega
  simp only [uintB, List.cons_append, numS, e, low_dg0]
  rw [if_neg (by omega), if_neg (by simp), if_neg (by omega), List.length_cons, dg_len, Nat.add_comm]
theorem int_rt {n : Int} (h0 : -9223372036854775808 ≤ n) (h1 : n ≤ 9223372036854775807) (r : List UInt8) : intS (intB n ++ r) = (0, n, (intB n).length) := by
  unfold intB
  split
  · rename_i hn
    obtain ⟨k, hk⟩ : ∃ k : Nat, (-n - 1).toNat = k := ⟨_, rfl⟩
    have h8 := nb_8 (n := k) (by omega)
    have e : (b8 (127 - nb k)).toNat = 127 - nb k := by rw [b8_nat]; omega
    rw [hk]
    simp only [List.cons_append, intS, e]
    rw [if_neg (show ¬ 128 ≤ 127 - nb k by omega), if_neg (show ¬ 128 ≤ 127 - nb k by omega), show 127 - (127 - nb k) = nb k by omega, low_dg, if_neg (by omega), if_neg (by simp), if_neg (by show ¬ _ < k; omega), if_neg (by omega)]
    simp only [List.length_cons, List.length_map, dg_len, Nat.add_comm, Prod.mk.injEq, and_true, true_and]
    omega
  · rename_i hn
    obtain ⟨k, hk⟩ : ∃ k : Nat, n.toNat = k := ⟨_, rfl⟩
    have h8 := nb_8 (n := k) (by omega)
    have e : (b8 (128 + nb k)).toNat = 128 + nb k := by rw [b8_nat]; omega
    rw [hk]
    simp only [List.cons_append, intS, e]
    rw [if_pos (show 128 ≤ 128 + nb k by omega), if_pos (show 128 ≤ 128 + nb k by omega), show 128 + nb k - 128 = nb k by omega, low_dg0, if_neg (by omega), if_neg (by simp), if_neg (by show ¬ _ < k; omega), if_pos (by omega)]
    simp only [List.length_cons, dg_len, Nat.add_comm, Prod.mk.injEq, and_true, true_and]
    omega
theorem byt_rt (b : List UInt8) : ∀ (m : Nat) (r : List UInt8), b.length ≤ m → bytS (bytesB b ++ r) m = (0, b, (bytesB b).length) := by
  induction b with
  | nil =>
    intro m r _
    show bytS (0 :: 0 :: r) m = _
    rw [bytS.eq_def]
    simp [bytesB, stuffB]
  | cons c s ih =>
    intro m r hm
    rw [List.length_cons] at hm
    have h := ih (m - 1) r (by omega)
    by_cases hc : c = 0
    · subst hc
      have e : bytesB (0 :: s) = 0 :: 255 :: bytesB s := by simp [bytesB, stuffB]
      rw [e, List.cons_append, List.cons_append, bytS_0 (by omega), h]
      simp [addS]; omega
    · have e : bytesB (c :: s) = c :: bytesB s := by simp [bytesB, stuffB, hc]
      rw [e, List.cons_append, bytS_c hc (by omega), h]
      simp [addS]; omega
theorem dg_val : ∀ (k : Nat) (l : List UInt8), l.length = k → (k = 0 ∨ l[0]? ≠ some 0) → dg (valB l) = l := by
  intro k
  induction k with
  | zero => intro l h _; rw [List.length_eq_zero_iff.1 h]; rfl
  | succ k ih =>
    intro l h h0
    have hl : l ≠ [] := by rintro rfl; simp at h
    obtain ⟨s, c, rfl⟩ : ∃ s c, l = s ++ [c] := ⟨l.dropLast, l.getLast hl, (List.dropLast_concat_getLast hl).symm⟩
    simp at h
    have hc := c.toNat_lt
    simp at hc
    have hs : k = 0 ∨ s[0]? ≠ some 0 := by
      rcases s with _ | ⟨x, s⟩
      · left; simpa using h.symm
      · right; simpa using h0
    have hd := ih s h hs
    have hnz : 256 * valB s + c.toNat ≠ 0 := by
      intro hz
      rcases Nat.eq_zero_or_pos k with rfl | hk
      · rw [List.length_eq_zero_iff.1 h] at h0
        have : c = 0 := by apply UInt8.toNat_inj.1; simp; omega
        subst this
        simp at h0
      · have : valB s = 0 := by omega
        rw [this] at hd
        rw [← hd] at h
        simp [dg_zero] at h
        omega
    rw [val_snoc, dg_step hnz, show (256 * valB s + c.toNat) / 256 = valB s by omega, hd]
    congr 2
    apply UInt8.toNat_inj.1
    rw [b8_nat]
    omega
/-- What was read as a number is the number's bytes. -/
theorem num_inv {b : List UInt8} {most : Nat} (h : (numS b most).1 = 0) : b = uintB (numS b most).2.1 ++ b.drop (numS b most).2.2 ∧ (numS b most).2.2 = (uintB (numS b most).2.1).length := by
  rcases b with _ | ⟨c, r⟩
  · simp [numS] at h
  simp only [numS] at h ⊢
  by_cases h8 : 8 < c.toNat
  · rw [if_pos h8] at h; simp at h
  rw [if_neg h8] at h ⊢
  by_cases hq : (lowS r c.toNat 0).2 ≠ 0
  · rw [if_pos hq] at h; exact absurd h hq
  rw [if_neg hq] at h ⊢
  by_cases hm : most < (lowS r c.toNat 0).1
  · rw [if_pos hm] at h; simp at h
  rw [if_neg hm]
  have hz : lowS r c.toNat 0 = (valB (r.take c.toNat), 0) ∧ c.toNat ≤ r.length ∧ (c.toNat = 0 ∨ r[0]? ≠ some 0) := by
    unfold lowS at hq ⊢
    split at hq
    · simp at hq
    · split at hq
      · simp at hq
      · rename_i h1 h2
        rw [if_neg h1, if_neg h2]
        refine ⟨?_, by omega, ?_⟩
        · have : (r.take c.toNat).map (· ^^^ (0 : UInt8)) = r.take c.toNat := by simp
          rw [this]
        · rcases Nat.eq_zero_or_pos c.toNat with h | h
          · exact .inl h
          · exact .inr (fun h3 => h2 ⟨h, h3⟩)
  obtain ⟨e1, e2, e3⟩ := hz
  have hd := dg_val c.toNat (r.take c.toNat) (by rw [List.length_take]; omega) (by
    rcases e3 with h | h
    · exact .inl h
    · rcases Nat.eq_zero_or_pos c.toNat with h1 | h1
      · exact .inl h1
      · right; rw [List.getElem?_take, if_pos h1]; exact h)
  have hn : nb (valB (r.take c.toNat)) = c.toNat := by rw [← dg_len, hd, List.length_take]; omega
  rw [e1]
  constructor
  · show c :: r = uintB (valB (r.take c.toNat)) ++ (c :: r).drop (1 + c.toNat)
    rw [uintB, hd, hn, Nat.add_comm 1, List.drop_succ_cons, List.cons_append, List.take_append_drop]
    congr 1
    apply UInt8.toNat_inj.1
    rw [b8_nat]; omega
  · show 1 + c.toNat = (uintB (valB (r.take c.toNat))).length
    rw [uintB, List.length_cons, hd, List.length_take]; omega

end Go.Proofs.YtpohjnhlhfbnaaaGreatDoor
