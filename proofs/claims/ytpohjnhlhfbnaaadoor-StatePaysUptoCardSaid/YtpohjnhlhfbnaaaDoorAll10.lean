import Derived.Test.YtpohjnhlhfbnaaaDoorAll7
import Derived.Test.YtpohjnhlhfbnaaaDoorAll8
import Derived.Test.YtpohjnhlhfbnaaaDoorAll9
import Derived.Test.YtpohjnhlhfbnaaaDoorAll5
import Derived.WalkKit
import Derived.Deep.RegionLaw
import Derived.Lib.SliceRun
import Derived.Lib.Overlaps
import Derived.Lib.AppendZeros
import Derived.Lib.AppendZerosOnto
import Derived.Laws.Externs
import Derived.Test.YtpohjnhlhfbnaaaDoorProg
namespace Go.Proofs.YtpohjnhlhfbnaaaDoor
open Go Go.EW
set_option linter.unusedSimpArgs false
set_option linter.unusedVariables false

@[simp] def l_longState_1 (_ : Unit) : List EOp := [⟨0, (some 1), none, (.q (.box 26 (.t 0))), []⟩, ⟨1, (some 2), none, (.q (.mov (.k (.bool false)))), []⟩]
@[simp] def b_longState_2 (_ : Unit) : EB := reg0 (hid l_longState_1) 2
@[simp] def l_longState_4 (_ : Unit) : List EOp := [⟨6, (some 11), none, (.q (.bin .add (.t 7) (.t 10))), []⟩, ⟨7, (some 3), none, (.q (.mov (.t 11))), []⟩]
@[simp] def l_longState_3 (_ : Unit) : List EOp := ⟨0, (some 5), none, (.q (.fad 3 (.t 1))), []⟩ :: ⟨1, (some 6), none, (.q (.ldc (.t 5))), []⟩ :: ⟨2, (some 7), none, (.q (.len (.t 6))), []⟩ :: ⟨3, (some 8), none, (.q (.fad 4 (.t 1))), []⟩ :: ⟨4, (some 9), none, (.q (.ldc (.t 8))), []⟩ :: ⟨5, (some 10), none, (.q (.len (.t 9))), []⟩ :: hid l_longState_4
@[simp] def b_longState_5 (_ : Unit) : EB := reg0 (hid l_longState_3) 8
@[simp] def l_longState_6 (_ : Unit) : List EOp := [⟨0, (some 12), none, (.q (.mov (.t 3))), []⟩, ⟨1, (some 13), none, (.q (.bin .gtr (.t 12) (.k (.int .i64 100)))), []⟩]
@[simp] def b_longState_7 (_ : Unit) : EB := reg0 (hid l_longState_6) 2
@[simp] def l_longState_8 (_ : Unit) : List EOp := [⟨0, (some 2), none, (.q (.mov (.k (.bool true)))), []⟩]
@[simp] def b_longState_9 (_ : Unit) : EB := reg0 (hid l_longState_8) 1
@[simp] def b_longState_10 (_ : Unit) : EB := .seq (hid b_longState_9) .ret
@[simp] def b_longState_11 (_ : Unit) : EB := .cond (.t 13) (hid b_longState_10) .skip
@[simp] def b_longState_12 (_ : Unit) : EB := .seq (hid b_longState_7) (hid b_longState_11)
@[simp] def l_longState_13 (_ : Unit) : List EOp := [⟨0, (some 4), none, (.q (.mov (.k (.int .i64 0)))), []⟩]
@[simp] def b_longState_14 (_ : Unit) : EB := reg0 (hid l_longState_13) 1
@[simp] def l_longState_15 (_ : Unit) : List EOp := [⟨0, (some 14), none, (.q (.mov (.t 4))), []⟩, ⟨1, (some 15), none, (.q (.fad 4 (.t 1))), []⟩, ⟨2, (some 16), none, (.q (.ldc (.t 15))), []⟩, ⟨3, (some 17), none, (.q (.len (.t 16))), []⟩, ⟨4, (some 18), none, (.q (.bin .lss (.t 14) (.t 17))), []⟩]
@[simp] def b_longState_16 (_ : Unit) : EB := reg0 (hid l_longState_15) 5
@[simp] def b_longState_17 (_ : Unit) : EB := .cond (.t 18) .skip (.exit 0)
@[simp] def b_longState_18 (_ : Unit) : EB := .seq (hid b_longState_16) (hid b_longState_17)
@[simp] def l_longState_20 (_ : Unit) : List EOp := [⟨6, (some 27), none, (.q (.ldc (.t 26))), []⟩, ⟨7, (some 28), none, (.q (.len (.t 27))), []⟩, ⟨8, (some 29), none, (.q (.bin .add (.t 21) (.t 28))), []⟩, ⟨9, (some 3), none, (.q (.mov (.t 29))), []⟩]
@[simp] def l_longState_19 (_ : Unit) : List EOp := ⟨0, (some 21), none, (.q (.mov (.t 3))), []⟩ :: ⟨1, (some 22), none, (.q (.fad 4 (.t 1))), []⟩ :: ⟨2, (some 23), none, (.q (.ldc (.t 22))), []⟩ :: ⟨3, (some 24), none, (.q (.mov (.t 4))), []⟩ :: ⟨4, (some 25), none, (.q (.isl 3 (.t 23) (.t 24))), []⟩ :: ⟨5, (some 26), none, (.q (.fad 2 (.t 25))), []⟩ :: hid l_longState_20
@[simp] def b_longState_21 (_ : Unit) : EB := reg0 (hid l_longState_19) 10
@[simp] def b_longState_22 (_ : Unit) : EB := .block 1 (hid b_longState_21)
@[simp] def l_longState_23 (_ : Unit) : List EOp := [⟨0, (some 19), none, (.q (.mov (.t 4))), []⟩, ⟨1, (some 20), none, (.q (.bin .add (.t 19) (.k (.int .i64 1)))), []⟩, ⟨2, (some 4), none, (.q (.mov (.t 20))), []⟩]
@[simp] def b_longState_24 (_ : Unit) : EB := reg0 (hid l_longState_23) 3
@[simp] def b_longState_25 (_ : Unit) : EB := .seq (hid b_longState_22) (hid b_longState_24)
@[simp] def b_longState_26 (_ : Unit) : EB := .seq (hid b_longState_18) (hid b_longState_25)
@[simp] def b_longState_27 (_ : Unit) : EB := .loop (hid b_longState_26)
@[simp] def b_longState_28 (_ : Unit) : EB := .block 0 (hid b_longState_27)
@[simp] def b_longState_29 (_ : Unit) : EB := .seq (hid b_longState_14) (hid b_longState_28)
@[simp] def l_longState_30 (_ : Unit) : List EOp := [⟨0, (some 30), none, (.q (.mov (.t 3))), []⟩, ⟨1, (some 31), none, (.q (.bin .gtr (.t 30) (.k (.int .i64 300)))), []⟩, ⟨2, (some 2), none, (.q (.mov (.t 31))), []⟩]
@[simp] def b_longState_31 (_ : Unit) : EB := reg0 (hid l_longState_30) 3
@[simp] def b_longState_32 (_ : Unit) : EB := .seq (hid b_longState_31) .ret
@[simp] def b_longState_33 (_ : Unit) : EB := .seq (hid b_longState_29) (hid b_longState_32)
@[simp] def b_longState_34 (_ : Unit) : EB := .seq (hid b_longState_12) (hid b_longState_33)
@[simp] def b_longState_35 (_ : Unit) : EB := .seq (hid b_longState_5) (hid b_longState_34)
@[simp] def b_longState_36 (_ : Unit) : EB := .seq (hid b_longState_2) (hid b_longState_35)
def c_longState : EB × List QOp × Nat := ((hid b_longState_36), [(.mov (.t 2))], 32)
theorem k_longState : cfun Tryd.prog 10 = some c_longState := by kernel_rfl


def sumK (l : List Hol) : Nat := (l.map (·.keys.length)).sum
theorem sumK_snoc (l : List Hol) (h : Hol) : sumK (l ++ [h]) = sumK l + h.keys.length := by simp [sumK]
theorem sumK_le : ∀ {l : List Hol}, (∀ h ∈ l, h.keys.length ≤ 100000000) → sumK l ≤ 100000000 * l.length
  | [], _ => by simp [sumK]
  | h :: r, q => by
    have h1 := q h (by simp)
    have h2 := sumK_le (l := r) (fun y hy => q y (by simp [hy]))
    simp [sumK] at *; omega
theorem sumK_mem : ∀ {l : List Hol} {h : Hol}, h ∈ l → h.keys.length ≤ sumK l
  | x :: r, h, q => by
    rcases List.mem_cons.1 q with rfl | q
    · simp [sumK]
    · have := sumK_mem q
      simp [sumK] at *; omega
/-- Has a state more than is gone through here? -/
def longS (s : Sta) : Bool := decide (100 < s.pays.length + s.holds.length ∨ 300 < s.pays.length + s.holds.length + sumK s.holds)
theorem longS_small {s : Sta} (h : longS s = false) : s.small ∧ s.pays.length ≤ 100 ∧ s.holds.length ≤ 100 ∧ ∀ h ∈ s.holds, h.keys.length ≤ 300 := by
  have h' := of_decide_eq_false h
  refine ⟨⟨by omega, by omega, fun x hx => ?_⟩, by omega, by omega, fun x hx => ?_⟩ <;>
  · have := sumK_mem hx
    omega

set_option maxHeartbeats 2000000 in
theorem longState_ok (s : Sta) (hs : s.ok) : ECalls Tryd.prog 10 [SV s] [] fun y H' => H' = [] ∧ y = .lit (.bool (longS s)) := by
  obtain ⟨ok1, ok2, ok3, ok4, ok5, ok6, ok7⟩ := id hs
  have w0 : IntKind.i64.wrap ((s.pays.length : Int) + (s.holds.length : Int)) = ((s.pays.length + s.holds.length : Nat) : Int) := by rw [wrap_i64 (by omega) (by omega)]; simp
  refine ecalls k_longState ?_
  simp [c_longState, SV, staC, w0, -Int.natCast_add]
  refine alt (fun hlt => ?_) (fun hlt => ?_)
  · simp
    have : longS s = true := by unfold longS; exact decide_eq_true (.inl (by omega))
    exact fin [] (by decide) rfl rfl rfl ⟨rfl, by simp [this]⟩
  simp [-Int.natCast_add]
  refine eloop (α := Nat) (fun i => i ≤ s.holds.length) (fun i => s.holds.length - i)
    (fun i => [.any, Ptr 0, .any, I .i64 ((s.pays.length + s.holds.length + sumK (s.holds.take i) : Nat) : Int), I .i64 i, .any, .any, .any, .any, .any, .any, .any, .any, .any, .any, .any, .any, .any, .any, .any, .any, .any, .any, .any, .any, .any, .any, .any, .any, .any, .any, .any]) (fun i => [some (.box 26 (staC s))]) 0 [0]
    (Nat.zero_le _) (by simp [Ptr, I, sumK]) (by simp [staC]) (by simp) (by simp) (by simp) ?_
  intro i hi
  have hlk := sumK_le (l := s.holds.take i) (fun h hh => (ok5 h (List.mem_of_mem_take hh)).2.2.2)
  have hlt' : (s.holds.take i).length = i := by simp; omega
  simp [Ptr, I, staC, -Int.natCast_add]
  refine alt (fun hlt => ?_) (fun hlt => ?_)
  · obtain ⟨p, hc⟩ : ∃ p, s.holds[i]? = some p := ⟨s.holds[i], by simp [hlt]⟩
    have hcb := holv_get hc
    have hk := (ok5 p (List.mem_of_getElem? hc)).2.2.2
    have hts : sumK (s.holds.take (i + 1)) = sumK (s.holds.take i) + p.keys.length := by rw [take_s hc, sumK_snoc]
    have w2 : IntKind.i64.wrap ((i : Int) + 1) = ((i + 1 : Nat) : Int) := wrap_i64 (by omega) (by omega)
    have w3 : IntKind.i64.wrap (((s.pays.length + s.holds.length + sumK (s.holds.take i) : Nat) : Int) + (p.keys.length : Int)) = ((s.pays.length + s.holds.length + sumK (s.holds.take (i + 1)) : Nat) : Int) := by
      rw [wrap_i64 (by omega) (by omega), hts]; simp; omega
    simp [hcb, holF, w2, w3, -Int.natCast_add]
    exact round (i + 1) [0] (by omega) (by omega) (by simp) (by simp) (by simp) (by simp) (by simp)
  have hil : i = s.holds.length := by omega
  subst hil
  rw [List.take_length] at *
  simp [-Int.natCast_add]
  exact fin [] (by decide) rfl rfl rfl ⟨rfl, by
    have : longS s = decide (300 < ((s.pays.length + s.holds.length + sumK s.holds : Nat) : Int)) := decide_eq_decide.2 (by omega)
    simp [this]⟩

end Go.Proofs.YtpohjnhlhfbnaaaDoor

namespace Go.Proofs.YtpohjnhlhfbnaaaDoor
open Go Go.EW
set_option linter.unusedSimpArgs false
set_option linter.unusedVariables false

@[simp] def l_giveState_1 (_ : Unit) : List EOp := [⟨0, (some 1), none, (.q (.box 26 (.t 0))), []⟩, ⟨1, (some 2), none, (.q (.alloc 32 [(.int .i64 0), (.int .i64 0), (.int .i64 0), (.slice none 0 0), (.slice none 0 0)])), []⟩]
@[simp] def b_giveState_2 (_ : Unit) : EB := reg0 (hid l_giveState_1) 2
@[simp] def l_giveState_4 (_ : Unit) : List EOp := [⟨6, none, none, (.fz (.sto 5 (.t 3) (.t 11))), []⟩]
@[simp] def l_giveState_3 (_ : Unit) : List EOp := ⟨0, (some 7), none, (.q (.fad 0 (.t 1))), []⟩ :: ⟨1, (some 8), none, (.q (.ldc (.t 7))), []⟩ :: ⟨2, (some 9), none, (.q (.fad 1 (.t 1))), []⟩ :: ⟨3, (some 10), none, (.q (.lda 2 (.t 9))), []⟩ :: ⟨4, (some 11), none, (.q (.build [(.int .i64 0), (.int .i64 0), (.int .i64 0), (.slice none 0 0), (.slice none 0 0)] [(0, 1, (.t 8)), (1, 2, (.t 10))])), []⟩ :: ⟨5, (some 3), none, (.q (.alloc 32 [(.int .i64 0), (.int .i64 0), (.int .i64 0), (.slice none 0 0), (.slice none 0 0)])), []⟩ :: hid l_giveState_4
@[simp] def b_giveState_5 (_ : Unit) : EB := reg0 (hid l_giveState_3) 7
@[simp] def l_giveState_6 (_ : Unit) : List EOp := [⟨0, (some 4), none, (.q (.mov (.k (.int .i64 0)))), []⟩]
@[simp] def b_giveState_7 (_ : Unit) : EB := reg0 (hid l_giveState_6) 1
@[simp] def l_giveState_8 (_ : Unit) : List EOp := [⟨0, (some 12), none, (.q (.mov (.t 4))), []⟩, ⟨1, (some 13), none, (.q (.fad 3 (.t 1))), []⟩, ⟨2, (some 14), none, (.q (.ldc (.t 13))), []⟩, ⟨3, (some 15), none, (.q (.len (.t 14))), []⟩, ⟨4, (some 16), none, (.q (.bin .lss (.t 12) (.t 15))), []⟩]
@[simp] def b_giveState_9 (_ : Unit) : EB := reg0 (hid l_giveState_8) 5
@[simp] def b_giveState_10 (_ : Unit) : EB := .cond (.t 16) .skip (.exit 0)
@[simp] def b_giveState_11 (_ : Unit) : EB := .seq (hid b_giveState_9) (hid b_giveState_10)
@[simp] def l_giveState_13 (_ : Unit) : List EOp := [⟨6, (some 25), none, (.q (.lda 36 (.t 24))), []⟩, ⟨7, (some 26), none, (.q (.bsl 36 (([(.int .i64 0), (.int .i64 0), (.int .i64 0), (.int .i64 0)] : List Value) ++ zU8) 1 [(0, (.t 25))])), []⟩, ⟨8, (some 27), none, (.app 61 36 64 (.t 20) (.t 26)), []⟩, ⟨9, (some 28), none, (.q (.fad 3 (.t 3))), []⟩, ⟨10, none, none, (.fz (.sto 1 (.t 28) (.t 27))), []⟩]
@[simp] def l_giveState_12 (_ : Unit) : List EOp := ⟨0, (some 19), none, (.q (.fad 3 (.t 3))), []⟩ :: ⟨1, (some 20), none, (.q (.ldc (.t 19))), []⟩ :: ⟨2, (some 21), none, (.q (.fad 3 (.t 1))), []⟩ :: ⟨3, (some 22), none, (.q (.ldc (.t 21))), []⟩ :: ⟨4, (some 23), none, (.q (.mov (.t 4))), []⟩ :: ⟨5, (some 24), none, (.q (.isl 36 (.t 22) (.t 23))), []⟩ :: hid l_giveState_13
@[simp] def b_giveState_14 (_ : Unit) : EB := reg0 (hid l_giveState_12) 11
@[simp] def b_giveState_15 (_ : Unit) : EB := .block 1 (hid b_giveState_14)
@[simp] def l_giveState_16 (_ : Unit) : List EOp := [⟨0, (some 17), none, (.q (.mov (.t 4))), []⟩, ⟨1, (some 18), none, (.q (.bin .add (.t 17) (.k (.int .i64 1)))), []⟩, ⟨2, (some 4), none, (.q (.mov (.t 18))), []⟩]
@[simp] def b_giveState_17 (_ : Unit) : EB := reg0 (hid l_giveState_16) 3
@[simp] def b_giveState_18 (_ : Unit) : EB := .seq (hid b_giveState_15) (hid b_giveState_17)
@[simp] def b_giveState_19 (_ : Unit) : EB := .seq (hid b_giveState_11) (hid b_giveState_18)
@[simp] def b_giveState_20 (_ : Unit) : EB := .loop (hid b_giveState_19)
@[simp] def b_giveState_21 (_ : Unit) : EB := .block 0 (hid b_giveState_20)
@[simp] def b_giveState_22 (_ : Unit) : EB := .seq (hid b_giveState_7) (hid b_giveState_21)
@[simp] def l_giveState_23 (_ : Unit) : List EOp := [⟨0, (some 5), none, (.q (.mov (.k (.int .i64 0)))), []⟩]
@[simp] def b_giveState_24 (_ : Unit) : EB := reg0 (hid l_giveState_23) 1
@[simp] def l_giveState_25 (_ : Unit) : List EOp := [⟨0, (some 29), none, (.q (.mov (.t 5))), []⟩, ⟨1, (some 30), none, (.q (.fad 4 (.t 1))), []⟩, ⟨2, (some 31), none, (.q (.ldc (.t 30))), []⟩, ⟨3, (some 32), none, (.q (.len (.t 31))), []⟩, ⟨4, (some 33), none, (.q (.bin .lss (.t 29) (.t 32))), []⟩]
@[simp] def b_giveState_26 (_ : Unit) : EB := reg0 (hid l_giveState_25) 5
@[simp] def b_giveState_27 (_ : Unit) : EB := .cond (.t 33) .skip (.exit 2)
@[simp] def b_giveState_28 (_ : Unit) : EB := .seq (hid b_giveState_26) (hid b_giveState_27)
@[simp] def l_giveState_29 (_ : Unit) : List EOp := [⟨0, (some 6), none, (.q (.mov (.k (.slice none 0 0)))), []⟩]
@[simp] def b_giveState_30 (_ : Unit) : EB := reg0 (hid l_giveState_29) 1
@[simp] def l_giveState_35 (_ : Unit) : List EOp := [⟨24, (some 60), none, (.app 65 3 40 (.t 37) (.t 59)), []⟩, ⟨25, (some 61), none, (.q (.fad 4 (.t 3))), []⟩, ⟨26, none, none, (.fz (.sto 1 (.t 61) (.t 60))), []⟩]
@[simp] def l_giveState_34 (_ : Unit) : List EOp := ⟨18, (some 54), none, (.q (.isl 3 (.t 52) (.t 53))), []⟩ :: ⟨19, (some 55), none, (.q (.fad 2 (.t 54))), []⟩ :: ⟨20, (some 56), none, (.q (.ldc (.t 55))), []⟩ :: ⟨21, (some 57), none, (.app 3 1 8 (.t 50) (.t 56)), [0, 1, 2, 3, 4, 5, 6, 7, 8, 9, 10, 11, 12, 13]⟩ :: ⟨22, (some 58), none, (.q (.build [(.int .i64 0), (.int .i64 0), (.slice none 0 0)] [(0, 1, (.t 43)), (1, 1, (.t 49)), (2, 1, (.t 57))])), []⟩ :: ⟨23, (some 59), none, (.fz (.q (.bsl 3 [(.int .i64 0), (.int .i64 0), (.slice none 0 0)] 1 [(0, (.t 58))]))), [0, 1]⟩ :: hid l_giveState_35
@[simp] def l_giveState_33 (_ : Unit) : List EOp := ⟨12, (some 48), none, (.q (.fad 1 (.t 47))), []⟩ :: ⟨13, (some 49), none, (.q (.ldc (.t 48))), []⟩ :: ⟨14, (some 50), none, (.q (.mov (.t 6))), []⟩ :: ⟨15, (some 51), none, (.q (.fad 4 (.t 1))), []⟩ :: ⟨16, (some 52), none, (.q (.ldc (.t 51))), []⟩ :: ⟨17, (some 53), none, (.q (.mov (.t 5))), []⟩ :: hid l_giveState_34
@[simp] def l_giveState_32 (_ : Unit) : List EOp := ⟨6, (some 42), none, (.q (.fad 0 (.t 41))), []⟩ :: ⟨7, (some 43), none, (.q (.ldc (.t 42))), []⟩ :: ⟨8, (some 44), none, (.q (.fad 4 (.t 1))), []⟩ :: ⟨9, (some 45), none, (.q (.ldc (.t 44))), []⟩ :: ⟨10, (some 46), none, (.q (.mov (.t 5))), []⟩ :: ⟨11, (some 47), none, (.q (.isl 3 (.t 45) (.t 46))), []⟩ :: hid l_giveState_33
@[simp] def l_giveState_31 (_ : Unit) : List EOp := ⟨0, (some 36), none, (.q (.fad 4 (.t 3))), []⟩ :: ⟨1, (some 37), none, (.q (.ldc (.t 36))), []⟩ :: ⟨2, (some 38), none, (.q (.fad 4 (.t 1))), []⟩ :: ⟨3, (some 39), none, (.q (.ldc (.t 38))), []⟩ :: ⟨4, (some 40), none, (.q (.mov (.t 5))), []⟩ :: ⟨5, (some 41), none, (.q (.isl 3 (.t 39) (.t 40))), []⟩ :: hid l_giveState_32
@[simp] def b_giveState_36 (_ : Unit) : EB := reg1 (hid l_giveState_31) 27
@[simp] def b_giveState_37 (_ : Unit) : EB := .seq (hid b_giveState_30) (hid b_giveState_36)
@[simp] def b_giveState_38 (_ : Unit) : EB := .block 3 (hid b_giveState_37)
@[simp] def l_giveState_39 (_ : Unit) : List EOp := [⟨0, (some 34), none, (.q (.mov (.t 5))), []⟩, ⟨1, (some 35), none, (.q (.bin .add (.t 34) (.k (.int .i64 1)))), []⟩, ⟨2, (some 5), none, (.q (.mov (.t 35))), []⟩]
@[simp] def b_giveState_40 (_ : Unit) : EB := reg0 (hid l_giveState_39) 3
@[simp] def b_giveState_41 (_ : Unit) : EB := .seq (hid b_giveState_38) (hid b_giveState_40)
@[simp] def b_giveState_42 (_ : Unit) : EB := .seq (hid b_giveState_28) (hid b_giveState_41)
@[simp] def b_giveState_43 (_ : Unit) : EB := .loop (hid b_giveState_42)
@[simp] def b_giveState_44 (_ : Unit) : EB := .block 2 (hid b_giveState_43)
@[simp] def b_giveState_45 (_ : Unit) : EB := .seq (hid b_giveState_24) (hid b_giveState_44)
@[simp] def l_giveState_46 (_ : Unit) : List EOp := [⟨0, (some 62), none, (.q (.lda 5 (.t 3))), []⟩, ⟨1, none, none, (.fz (.sto 5 (.t 2) (.t 62))), []⟩]
@[simp] def b_giveState_47 (_ : Unit) : EB := reg0 (hid l_giveState_46) 2
@[simp] def b_giveState_48 (_ : Unit) : EB := .seq (hid b_giveState_47) .ret
@[simp] def b_giveState_49 (_ : Unit) : EB := .seq (hid b_giveState_45) (hid b_giveState_48)
@[simp] def b_giveState_50 (_ : Unit) : EB := .seq (hid b_giveState_22) (hid b_giveState_49)
@[simp] def b_giveState_51 (_ : Unit) : EB := .seq (hid b_giveState_5) (hid b_giveState_50)
@[simp] def b_giveState_52 (_ : Unit) : EB := .seq (hid b_giveState_2) (hid b_giveState_51)
def c_giveState : EB × List QOp × Nat := ((hid b_giveState_52), [(.lda 5 (.t 2))], 63)
theorem k_giveState : cfun Tryd.prog 13 = some c_giveState := by kernel_rfl


def zC : List EC := [.fz (.lit (.int .i64 0)), .fz (.lit (.int .i64 0)), .fz (.lit (.int .i64 0)), .fz (.lit (.slice none 0 0)), .fz (.lit (.slice none 0 0))]
def gC (s : Sta) (a b : EC) : List EC := [.fz (.lit (.int .i64 s.num)), .fz (.lit (.int .i64 s.h0)), .fz (.lit (.int .i64 s.h1)), a, b]

set_option maxHeartbeats 2000000 in
theorem giveState_ok (s : Sta) (hs : s.ok) (hm : s.small) : ECalls Tryd.prog 13 [SV s] [] fun y H' => H' = [] ∧ y = SV s := by
  obtain ⟨ok1, ok2, ok3, ok4, ok5, ok6, ok7⟩ := id hs
  obtain ⟨m1, m2, m3⟩ := hm
  refine ecalls k_giveState ?_
  simp [c_giveState, SV, staC]
  refine loopW _ (weak_nil (o := 112) (k := 3) (ty := 61) (es := 36) rfl rfl (by omega)) ?_
  refine loopW _ (weak_nil (o := 112) (k := 4) (ty := 65) (es := 3) rfl rfl (by omega)) ?_
  refine eloop (α := Nat) (fun i => i ≤ s.pays.length) (fun i => s.pays.length - i)
    (fun i => [.any, Ptr 0, Ptr 1, Ptr 2, I .i64 i, .any, .any, .any, .any, .any, .any, .any, .any, .any, .any, .any, .any, .any, .any, .any, .any, .any, .any, .any, .any, .any, .any, .any, .any, .any, .any, .any, .any, .any, .any, .any, .any, .any, .any, .any, .any, .any, .any, .any, .any, .any, .any, .any, .any, .any, .any, .any, .any, .any, .any, .any, .any, .any, .any, .any, .any, .any, .any]) (fun i => [some (.box 26 (staC s)), some (.box 32 zC), some (.box 32 (gC s (.row 3 i) (.row 4 0))), some (.row 61 36 (payv (s.pays.take i))), some (.row 65 3 [])]) 0 [0, 16, 112, 160, 161]
    (Nat.zero_le _) (by simp [Ptr, I]) (by simp [zC, gC, staC, payv]) (by simp) (by simp) (by simp) ?_
  intro i hi
  simp [Ptr, I, staC, zC, gC]
  refine alt (fun hlt => ?_) (fun hlt => ?_)
  · obtain ⟨p, hc⟩ : ∃ p, s.pays[i]? = some p := ⟨s.pays[i], by simp [hlt]⟩
    have hpo := ok4 p (List.mem_of_getElem? hc)
    have hl32 := hpo.2.2.2.2
    have ht : p.lock.take 32 = p.lock := List.take_of_length_le (by omega)
    have hcb := payv_get hc
    have w2 : IntKind.i64.wrap ((i : Int) + 1) = ((i + 1 : Nat) : Int) := wrap_i64 (by omega) (by omega)
    have e2 : payv (s.pays.take (i + 1)) = payv (s.pays.take i) ++ [payF p] := by rw [take_s hc]; simp [payv]
    have hm0 : min i s.pays.length = i := by omega
    simp [hcb, payF, hl32, ht, w2, hm0, -Int.natCast_add]
    refine ⟨by omega, ?_⟩
    exact round (i + 1) [0, 1, 2, 213, 4] (by omega) (by omega) (by simp) (by simp [e2, payF]) (by simp) (by simp) (by simp)
  have hil : i = s.pays.length := by omega
  subst hil
  rw [List.take_length]
  simp
  refine eloop (α := Nat) (fun i => i ≤ s.holds.length) (fun i => s.holds.length - i)
    (fun i => [.any, Ptr 0, Ptr 1, Ptr 2, .any, I .i64 i, .any, .any, .any, .any, .any, .any, .any, .any, .any, .any, .any, .any, .any, .any, .any, .any, .any, .any, .any, .any, .any, .any, .any, .any, .any, .any, .any, .any, .any, .any, .any, .any, .any, .any, .any, .any, .any, .any, .any, .any, .any, .any, .any, .any, .any, .any, .any, .any, .any, .any, .any, .any, .any, .any, .any, .any, .any]) (fun i => [some (.box 26 (staC s)), some (.box 32 zC), some (.box 32 (gC s (.row 3 s.pays.length) (.row 4 i))), some (.row 61 36 (payv s.pays)), some (.row 65 3 (holv (s.holds.take i)))]) 0 [0, 1, 2, 3, 4]
    (Nat.zero_le _) (by simp [Ptr, I]) (by simp [zC, gC, staC, holv]) (by simp) (by simp) (by simp) ?_
  intro i hi
  simp [Ptr, I, staC, zC, gC]
  refine alt (fun hlt => ?_) (fun hlt => ?_)
  · obtain ⟨p, hc⟩ : ∃ p, s.holds[i]? = some p := ⟨s.holds[i], by simp [hlt]⟩
    have hk := m3 p (List.mem_of_getElem? hc)
    have hcb := holv_get hc
    have w2 : IntKind.i64.wrap ((i : Int) + 1) = ((i + 1 : Nat) : Int) := wrap_i64 (by omega) (by omega)
    have e2 : holv (s.holds.take (i + 1)) = holv (s.holds.take i) ++ [holF p] := by rw [take_s hc]; simp [holv]
    have hm0 : min i s.holds.length = i := by omega
    simp [hcb, holF, w2, hm0, -Int.natCast_add]
    refine ⟨⟨by omega, by omega⟩, ⟨by omega, by omega⟩, ?_⟩
    exact round (i + 1) [0, 1, 2, 3, 485] (by omega) (by omega) (by simp) (by simp [e2, holF, List.take_of_length_le]) (by simp) (by simp) (by simp)
  have hil : i = s.holds.length := by omega
  subst hil
  rw [List.take_length]
  simp
  refine finW _ (weak_frz (o := 3) (ty := 61) (es := 36) (xs := payv s.pays) rfl) ?_
  refine finW _ (weak_frz (o := 4) (ty := 65) (es := 3) (xs := holv s.holds) rfl) ?_
  exact fin [] (by decide) rfl rfl rfl ⟨rfl, by simp [List.take_of_length_le]⟩

end Go.Proofs.YtpohjnhlhfbnaaaDoor

namespace Go.Proofs.YtpohjnhlhfbnaaaDoor
open Go Go.EW
set_option linter.unusedSimpArgs false
set_option linter.unusedVariables false

@[simp] def l_same_1 (_ : Unit) : List EOp := [⟨0, (some 4), none, (.q (.box 32 (.t 0))), []⟩, ⟨1, (some 6), none, (.q (.box 26 (.t 2))), []⟩, ⟨2, (some 8), none, (.q (.mov (.k (.bool false)))), []⟩]
@[simp] def b_same_2 (_ : Unit) : EB := reg0 (hid l_same_1) 3
@[simp] def l_same_5 (_ : Unit) : List EOp := [⟨12, (some 21), none, (.q (.pick (.t 13) (.t 20) (.k (.bool false)))), []⟩, ⟨13, (some 8), none, (.q (.mov (.t 21))), []⟩]
@[simp] def l_same_4 (_ : Unit) : List EOp := ⟨8, (some 17), (some (13, true)), (.q (.lda 5 (.t 6))), []⟩ :: ⟨6, (some 15), (some (13, true)), (.call 22 [(.t 14)]), [8]⟩ :: ⟨7, (some 16), (some (13, true)), (.q (.b2s (.t 15))), []⟩ :: ⟨9, (some 18), (some (13, true)), (.call 33 [(.t 17)]), [7]⟩ :: ⟨10, (some 19), (some (13, true)), (.q (.b2s (.t 18))), []⟩ :: ⟨11, (some 20), (some (13, true)), (.q (.bin .eql (.t 16) (.t 19))), []⟩ :: hid l_same_5
@[simp] def l_same_3 (_ : Unit) : List EOp := ⟨0, (some 9), none, (.q (.mov (.t 1))), []⟩ :: ⟨2, (some 11), none, (.q (.mov (.t 3))), []⟩ :: ⟨1, (some 10), none, (.call 29 [(.t 9)]), [2]⟩ :: ⟨3, (some 12), none, (.q (.bin .eql (.t 10) (.t 11))), []⟩ :: ⟨4, (some 13), none, (.q (.mov (.t 12))), []⟩ :: ⟨5, (some 14), (some (13, true)), (.q (.lda 5 (.t 4))), []⟩ :: hid l_same_4
@[simp] def b_same_6 (_ : Unit) : EB := reg1 (hid l_same_3) 14
@[simp] def b_same_7 (_ : Unit) : EB := .seq (hid b_same_6) .ret
@[simp] def b_same_8 (_ : Unit) : EB := .seq (hid b_same_2) (hid b_same_7)
def c_same : EB × List QOp × Nat := ((hid b_same_8), [(.mov (.t 8))], 22)
theorem k_same : cfun Tryd.prog 15 = some c_same := by kernel_rfl

@[simp] def l_sure_1 (_ : Unit) : List EOp := [⟨0, (some 0), none, (.q (.mov (.k (.bool false)))), []⟩]
@[simp] def b_sure_2 (_ : Unit) : EB := reg0 (hid l_sure_1) 1
@[simp] def l_sure_4 (_ : Unit) : List EOp := [⟨6, (some 1), none, (.q (.alloc 32 [(.int .i64 0), (.int .i64 0), (.int .i64 0), (.slice none 0 0), (.slice none 0 0)])), []⟩, ⟨7, none, none, (.fz (.sto 5 (.t 1) (.t 7))), []⟩, ⟨8, (some 2), none, (.q (.mov (.t 8))), []⟩]
@[simp] def l_sure_3 (_ : Unit) : List EOp := ⟨0, (some 4), none, (.q (.build [(.int .i64 0), (.int .i64 0)] [(0, 1, (.k (.int .i64 50))), (1, 1, (.k (.int .i64 50)))])), []⟩ :: ⟨1, (some 5), none, (.q (.build [(.int .i64 0), (.int .i64 0), (.int .i64 0), (.slice none 0 0), (.slice none 0 0)] [(1, 2, (.t 4))])), []⟩ :: ⟨2, (some 6), none, (.call 12 [(.t 5), (.k (.int .i64 0)), (.k (.int .i64 20))]), []⟩ :: ⟨3, (some 3), none, (.q (.mov (.t 6))), []⟩ :: ⟨4, (some 7), none, (.q (.ext 0 (.t 3))), []⟩ :: ⟨5, (some 8), none, (.q (.ext 1 (.t 3))), []⟩ :: hid l_sure_4
@[simp] def b_sure_5 (_ : Unit) : EB := reg0 (hid l_sure_3) 9
@[simp] def l_sure_8 (_ : Unit) : List EOp := [⟨12, (some 21), none, (.q (.pick (.t 17) (.t 20) (.k (.bool false)))), []⟩, ⟨13, (some 0), none, (.q (.mov (.t 21))), []⟩]
@[simp] def l_sure_7 (_ : Unit) : List EOp := ⟨6, (some 15), (some (11, true)), (.q (.eqa false 2 .i64 (.t 13) (.t 14))), []⟩ :: ⟨7, (some 16), none, (.q (.pick (.t 11) (.t 15) (.k (.bool false)))), []⟩ :: ⟨8, (some 17), none, (.q (.mov (.t 16))), []⟩ :: ⟨9, (some 18), (some (17, true)), (.q (.fad 0 (.t 1))), []⟩ :: ⟨10, (some 19), (some (17, true)), (.q (.ldc (.t 18))), []⟩ :: ⟨11, (some 20), (some (17, true)), (.q (.bin .eql (.t 19) (.k (.int .i64 1)))), []⟩ :: hid l_sure_8
@[simp] def l_sure_6 (_ : Unit) : List EOp := ⟨0, (some 9), none, (.q (.mov (.t 2))), []⟩ :: ⟨1, (some 10), none, (.q (.eqi false (.t 9))), []⟩ :: ⟨2, (some 11), none, (.q (.mov (.t 10))), []⟩ :: ⟨3, (some 12), (some (11, true)), (.q (.fad 1 (.t 1))), []⟩ :: ⟨4, (some 13), (some (11, true)), (.q (.lda 2 (.t 12))), []⟩ :: ⟨5, (some 14), (some (11, true)), (.q (.build [(.int .i64 0), (.int .i64 0)] [(0, 1, (.k (.int .i64 30))), (1, 1, (.k (.int .i64 70)))])), []⟩ :: hid l_sure_7
@[simp] def b_sure_9 (_ : Unit) : EB := reg0 (hid l_sure_6) 14
@[simp] def b_sure_10 (_ : Unit) : EB := .seq (hid b_sure_9) .ret
@[simp] def b_sure_11 (_ : Unit) : EB := .seq (hid b_sure_5) (hid b_sure_10)
@[simp] def b_sure_12 (_ : Unit) : EB := .seq (hid b_sure_2) (hid b_sure_11)
def c_sure : EB × List QOp × Nat := ((hid b_sure_12), [(.mov (.t 0))], 22)
theorem k_sure : cfun Tryd.prog 11 = some c_sure := by kernel_rfl

@[simp] def l_StateMoves_1 (_ : Unit) : List EOp := [⟨0, (some 3), none, (.q (.box 26 (.t 0))), []⟩, ⟨1, (some 6), none, (.q (.mov (.k (.bool false)))), []⟩]
@[simp] def b_StateMoves_2 (_ : Unit) : EB := reg0 (hid l_StateMoves_1) 2
@[simp] def l_StateMoves_3 (_ : Unit) : List EOp := [⟨0, (some 11), none, (.q (.lda 5 (.t 3))), []⟩, ⟨1, (some 12), none, (.call 10 [(.t 11)]), []⟩]
@[simp] def b_StateMoves_4 (_ : Unit) : EB := reg0 (hid l_StateMoves_3) 2
@[simp] def l_StateMoves_5 (_ : Unit) : List EOp := [⟨0, (some 13), none, (.call 11 []), []⟩, ⟨1, (some 6), none, (.q (.mov (.t 13))), []⟩]
@[simp] def b_StateMoves_6 (_ : Unit) : EB := reg0 (hid l_StateMoves_5) 2
@[simp] def b_StateMoves_7 (_ : Unit) : EB := .seq (hid b_StateMoves_6) .ret
@[simp] def b_StateMoves_8 (_ : Unit) : EB := .cond (.t 12) (hid b_StateMoves_7) .skip
@[simp] def b_StateMoves_9 (_ : Unit) : EB := .seq (hid b_StateMoves_4) (hid b_StateMoves_8)
@[simp] def l_StateMoves_11 (_ : Unit) : List EOp := [⟨6, (some 20), none, (.q (.ext 0 (.t 14))), []⟩, ⟨7, (some 21), none, (.q (.ext 1 (.t 14))), []⟩, ⟨8, (some 7), none, (.q (.alloc 32 [(.int .i64 0), (.int .i64 0), (.int .i64 0), (.slice none 0 0), (.slice none 0 0)])), []⟩, ⟨9, none, none, (.fz (.sto 5 (.t 7) (.t 20))), []⟩, ⟨10, (some 8), none, (.q (.mov (.t 21))), []⟩]
@[simp] def l_StateMoves_10 (_ : Unit) : List EOp := ⟨0, (some 15), none, (.q (.lda 5 (.t 3))), []⟩ :: ⟨1, (some 16), none, (.call 13 [(.t 15)]), []⟩ :: ⟨2, (some 17), none, (.q (.mov (.t 1))), []⟩ :: ⟨3, (some 18), none, (.q (.mov (.t 2))), []⟩ :: ⟨4, (some 19), none, (.call 12 [(.t 16), (.t 17), (.t 18)]), []⟩ :: ⟨5, (some 14), none, (.q (.mov (.t 19))), []⟩ :: hid l_StateMoves_11
@[simp] def b_StateMoves_12 (_ : Unit) : EB := reg0 (hid l_StateMoves_10) 11
@[simp] def l_StateMoves_14 (_ : Unit) : List EOp := [⟨6, (some 28), none, (.q (.ext 1 (.t 22))), []⟩, ⟨7, (some 9), none, (.q (.alloc 26 [(.int .i64 0), (.int .i64 0), (.int .i64 0), (.slice none 0 0), (.slice none 0 0)])), []⟩, ⟨8, none, none, (.fz (.sto 5 (.t 9) (.t 27))), []⟩, ⟨9, (some 10), none, (.q (.mov (.t 28))), []⟩]
@[simp] def l_StateMoves_13 (_ : Unit) : List EOp := ⟨0, (some 23), none, (.q (.lda 5 (.t 3))), []⟩ :: ⟨1, (some 24), none, (.q (.mov (.t 1))), []⟩ :: ⟨2, (some 25), none, (.q (.mov (.t 2))), []⟩ :: ⟨3, (some 26), none, (.call 14 [(.t 23), (.t 24), (.t 25)]), []⟩ :: ⟨4, (some 22), none, (.q (.mov (.t 26))), []⟩ :: ⟨5, (some 27), none, (.q (.ext 0 (.t 22))), []⟩ :: hid l_StateMoves_14
@[simp] def b_StateMoves_15 (_ : Unit) : EB := reg0 (hid l_StateMoves_13) 10
@[simp] def l_StateMoves_17 (_ : Unit) : List EOp := [⟨6, (some 35), (some (34, true)), (.call 11 []), []⟩, ⟨7, (some 36), none, (.q (.pick (.t 34) (.t 35) (.k (.bool false)))), []⟩, ⟨8, (some 6), none, (.q (.mov (.t 36))), []⟩]
@[simp] def l_StateMoves_16 (_ : Unit) : List EOp := ⟨0, (some 29), none, (.q (.lda 5 (.t 7))), []⟩ :: ⟨1, (some 30), none, (.q (.mov (.t 8))), []⟩ :: ⟨2, (some 31), none, (.q (.lda 5 (.t 9))), []⟩ :: ⟨3, (some 32), none, (.q (.mov (.t 10))), []⟩ :: ⟨4, (some 33), none, (.call 15 [(.t 29), (.t 30), (.t 31), (.t 32)]), []⟩ :: ⟨5, (some 34), none, (.q (.mov (.t 33))), []⟩ :: hid l_StateMoves_17
@[simp] def b_StateMoves_18 (_ : Unit) : EB := reg0 (hid l_StateMoves_16) 9
@[simp] def b_StateMoves_19 (_ : Unit) : EB := .seq (hid b_StateMoves_18) .ret
@[simp] def b_StateMoves_20 (_ : Unit) : EB := .seq (hid b_StateMoves_15) (hid b_StateMoves_19)
@[simp] def b_StateMoves_21 (_ : Unit) : EB := .seq (hid b_StateMoves_12) (hid b_StateMoves_20)
@[simp] def b_StateMoves_22 (_ : Unit) : EB := .seq (hid b_StateMoves_9) (hid b_StateMoves_21)
@[simp] def b_StateMoves_23 (_ : Unit) : EB := .seq (hid b_StateMoves_2) (hid b_StateMoves_22)
def c_StateMoves : EB × List QOp × Nat := ((hid b_StateMoves_23), [(.mov (.t 6))], 37)
theorem k_StateMoves : cfun Tryd.prog 3 = some c_StateMoves := by kernel_rfl

@[simp] def l_StateSizes_1 (_ : Unit) : List EOp := [⟨0, (some 3), none, (.q (.box 26 (.t 0))), []⟩, ⟨1, (some 6), none, (.q (.mov (.k (.bool false)))), []⟩]
@[simp] def b_StateSizes_2 (_ : Unit) : EB := reg0 (hid l_StateSizes_1) 2
@[simp] def l_StateSizes_3 (_ : Unit) : List EOp := [⟨0, (some 11), none, (.q (.lda 5 (.t 3))), []⟩, ⟨1, (some 12), none, (.call 10 [(.t 11)]), []⟩]
@[simp] def b_StateSizes_4 (_ : Unit) : EB := reg0 (hid l_StateSizes_3) 2
@[simp] def l_StateSizes_5 (_ : Unit) : List EOp := [⟨0, (some 13), none, (.call 11 []), []⟩, ⟨1, (some 6), none, (.q (.mov (.t 13))), []⟩]
@[simp] def b_StateSizes_6 (_ : Unit) : EB := reg0 (hid l_StateSizes_5) 2
@[simp] def b_StateSizes_7 (_ : Unit) : EB := .seq (hid b_StateSizes_6) .ret
@[simp] def b_StateSizes_8 (_ : Unit) : EB := .cond (.t 12) (hid b_StateSizes_7) .skip
@[simp] def b_StateSizes_9 (_ : Unit) : EB := .seq (hid b_StateSizes_4) (hid b_StateSizes_8)
@[simp] def l_StateSizes_11 (_ : Unit) : List EOp := [⟨6, (some 20), none, (.q (.ext 0 (.t 14))), []⟩, ⟨7, (some 21), none, (.q (.ext 1 (.t 14))), []⟩, ⟨8, (some 7), none, (.q (.alloc 32 [(.int .i64 0), (.int .i64 0), (.int .i64 0), (.slice none 0 0), (.slice none 0 0)])), []⟩, ⟨9, none, none, (.fz (.sto 5 (.t 7) (.t 20))), []⟩, ⟨10, (some 8), none, (.q (.mov (.t 21))), []⟩]
@[simp] def l_StateSizes_10 (_ : Unit) : List EOp := ⟨0, (some 15), none, (.q (.lda 5 (.t 3))), []⟩ :: ⟨1, (some 16), none, (.call 13 [(.t 15)]), []⟩ :: ⟨2, (some 17), none, (.q (.mov (.t 1))), []⟩ :: ⟨3, (some 18), none, (.q (.mov (.t 2))), []⟩ :: ⟨4, (some 19), none, (.call 16 [(.t 16), (.t 17), (.t 18)]), []⟩ :: ⟨5, (some 14), none, (.q (.mov (.t 19))), []⟩ :: hid l_StateSizes_11
@[simp] def b_StateSizes_12 (_ : Unit) : EB := reg0 (hid l_StateSizes_10) 11
@[simp] def l_StateSizes_14 (_ : Unit) : List EOp := [⟨6, (some 28), none, (.q (.ext 1 (.t 22))), []⟩, ⟨7, (some 9), none, (.q (.alloc 26 [(.int .i64 0), (.int .i64 0), (.int .i64 0), (.slice none 0 0), (.slice none 0 0)])), []⟩, ⟨8, none, none, (.fz (.sto 5 (.t 9) (.t 27))), []⟩, ⟨9, (some 10), none, (.q (.mov (.t 28))), []⟩]
@[simp] def l_StateSizes_13 (_ : Unit) : List EOp := ⟨0, (some 23), none, (.q (.lda 5 (.t 3))), []⟩ :: ⟨1, (some 24), none, (.q (.mov (.t 1))), []⟩ :: ⟨2, (some 25), none, (.q (.mov (.t 2))), []⟩ :: ⟨3, (some 26), none, (.call 17 [(.t 23), (.t 24), (.t 25)]), []⟩ :: ⟨4, (some 22), none, (.q (.mov (.t 26))), []⟩ :: ⟨5, (some 27), none, (.q (.ext 0 (.t 22))), []⟩ :: hid l_StateSizes_14
@[simp] def b_StateSizes_15 (_ : Unit) : EB := reg0 (hid l_StateSizes_13) 10
@[simp] def l_StateSizes_19 (_ : Unit) : List EOp := [⟨18, (some 47), none, (.q (.mov (.t 46))), []⟩, ⟨19, (some 48), (some (47, true)), (.call 11 []), []⟩, ⟨20, (some 49), none, (.q (.pick (.t 47) (.t 48) (.k (.bool false)))), []⟩, ⟨21, (some 6), none, (.q (.mov (.t 49))), []⟩]
@[simp] def l_StateSizes_18 (_ : Unit) : List EOp := ⟨10, (some 39), (some (37, false)), (.call 18 [(.t 38)]), [11, 13]⟩ :: ⟨12, (some 41), (some (37, false)), (.q (.bin .sub (.t 39) (.t 40))), []⟩ :: ⟨14, (some 43), (some (37, false)), (.call 19 [(.t 42)]), [11, 12]⟩ :: ⟨15, (some 44), (some (37, false)), (.q (.bin .eql (.t 41) (.t 43))), []⟩ :: ⟨16, (some 45), (some (34, true)), (.q (.pick (.t 37) (.k (.bool true)) (.t 44))), []⟩ :: ⟨17, (some 46), none, (.q (.pick (.t 34) (.t 45) (.k (.bool false)))), []⟩ :: hid l_StateSizes_19
@[simp] def l_StateSizes_17 (_ : Unit) : List EOp := ⟨6, (some 35), (some (34, true)), (.q (.mov (.t 8))), []⟩ :: ⟨7, (some 36), (some (34, true)), (.q (.eqi true (.t 35))), []⟩ :: ⟨8, (some 37), (some (34, true)), (.q (.mov (.t 36))), []⟩ :: ⟨9, (some 38), (some (37, false)), (.q (.lda 5 (.t 7))), []⟩ :: ⟨11, (some 40), (some (37, false)), (.q (.mov (.t 2))), []⟩ :: ⟨13, (some 42), (some (37, false)), (.q (.lda 5 (.t 3))), []⟩ :: hid l_StateSizes_18
@[simp] def l_StateSizes_16 (_ : Unit) : List EOp := ⟨0, (some 29), none, (.q (.lda 5 (.t 7))), []⟩ :: ⟨1, (some 30), none, (.q (.mov (.t 8))), []⟩ :: ⟨2, (some 31), none, (.q (.lda 5 (.t 9))), []⟩ :: ⟨3, (some 32), none, (.q (.mov (.t 10))), []⟩ :: ⟨4, (some 33), none, (.call 15 [(.t 29), (.t 30), (.t 31), (.t 32)]), []⟩ :: ⟨5, (some 34), none, (.q (.mov (.t 33))), []⟩ :: hid l_StateSizes_17
@[simp] def b_StateSizes_20 (_ : Unit) : EB := reg1 (hid l_StateSizes_16) 22
@[simp] def b_StateSizes_21 (_ : Unit) : EB := .seq (hid b_StateSizes_20) .ret
@[simp] def b_StateSizes_22 (_ : Unit) : EB := .seq (hid b_StateSizes_15) (hid b_StateSizes_21)
@[simp] def b_StateSizes_23 (_ : Unit) : EB := .seq (hid b_StateSizes_12) (hid b_StateSizes_22)
@[simp] def b_StateSizes_24 (_ : Unit) : EB := .seq (hid b_StateSizes_9) (hid b_StateSizes_23)
@[simp] def b_StateSizes_25 (_ : Unit) : EB := .seq (hid b_StateSizes_2) (hid b_StateSizes_24)
def c_StateSizes : EB × List QOp × Nat := ((hid b_StateSizes_25), [(.mov (.t 6))], 50)
theorem k_StateSizes : cfun Tryd.prog 4 = some c_StateSizes := by kernel_rfl


theorem num_e (e : Nat) : ECalls Tryd.prog 29 [.lit (errV e)] [] fun y H' => H' = [] ∧ y = I .i64 e := by
  have h := num_ok (e : Int)
  have e1 : EN (e : Int) = .lit (errV e) := by
    unfold EN errV
    by_cases h : e = 0
    · subst h; rfl
    · rw [if_neg (by omega), if_neg h]
  rw [e1] at h
  exact h

/-- What is said of a state without payments and holds is said of one whose slices are nil. -/
theorem ecalls_nlS {P : Program} {f : FuncId} {e1 e2 : Nat} {a b c : EC} {rest : List EV} {H : List EO} {post : EV → List (Option EO) → Prop} (h : ECalls P f (.v (.agg [a, b, c, .fz (.sl e1 []), .fz (.sl e2 [])]) :: rest) H post) :
    ECalls P f (.v (.agg [a, b, c, .fz (.lit (.slice none 0 0)), .fz (.lit (.slice none 0 0))]) :: rest) H post := by
  intro ρ Φ w vals r ha
  refine h ρ Φ w vals r ?_
  obtain ⟨u, us, rfl, h1, h2⟩ := ha.cons_left
  refine All2.cons ?_ h2
  obtain ⟨vs, rfl, hv⟩ := h1
  refine ⟨vs, rfl, by simpa using hv.1, ?_⟩
  intro i x y hx hy
  rcases i with _ | _ | _ | _ | _ | i
  · exact hv.2 0 x y hx hy
  · exact hv.2 1 x y hx hy
  · exact hv.2 2 x y hx hy
  · have := hv.2 3 _ y rfl hy
    simp at hx; subst hx
    exact nl_vr this
  · have := hv.2 4 _ y rfl hy
    simp at hx; subst hx
    exact nl_vr this
  · simp at hx

theorem zSta_ok : zSta.ok ∧ zSta.small := by simp [zSta, Sta.ok, Sta.small, i64]
theorem mayS_b {s : Sta} (h : mayS s = true) : 0 ≤ s.num ∧ s.num ≤ 1099511627776 ∧ 0 ≤ s.h0 ∧ s.h0 ≤ 1125899906842624 ∧ 0 ≤ s.h1 ∧ s.h1 ≤ 1125899906842624 := by
  unfold mayS at h
  simp only [Bool.and_eq_true, decide_eq_true_eq] at h
  omega

theorem moveS_ok {s : Sta} {a b : Int} (hs : s.ok) (hm : s.small) : (moveS s a b).1.ok ∧ (moveS s a b).1.small := by
  have hz := zSta_ok
  obtain ⟨ok1, ok2, ok3, ok4, ok5, ok6, ok7⟩ := id hs
  unfold moveS
  split
  · exact hz
  rename_i h1
  have hy : mayS s = true := by
    unfold nxt at h1
    split at h1
    · rename_i h; exact h.1
    · simp at h1
  have hb := mayS_b hy
  split
  · exact hz
  split
  · exact hz
  by_cases h5 : a = 0
  · simp only [h5, if_true]
    split
    · exact hz
    · exact ⟨⟨by unfold i64; simp; omega, by unfold i64; simp; omega, by unfold i64; simp; omega, ok4, ok5, ok6, ok7⟩, hm⟩
  · simp only [h5, if_false]
    split
    · exact hz
    · exact ⟨⟨by unfold i64; simp; omega, by unfold i64; simp; omega, by unfold i64; simp; omega, ok4, ok5, ok6, ok7⟩, hm⟩

set_option maxHeartbeats 2000000 in
theorem same_ok (x : Sta) (e : Nat) (hx : x.ok) (hm : x.small) : ECalls Tryd.prog 15 [SV x, .lit (errV e), SV x, I .i64 e] [] fun y H' => H' = [] ∧ y = .lit (.bool true) := by
  refine ecalls k_same ?_
  simp [c_same, SV, staC, I]
  refine call0 (num_e e) (by simp [Ptr, I, EV.lit, Bs, SV, staC, SE, RE]) ?_
  rintro y H' ⟨rfl, rfl⟩
  refine ⟨.inl (by simp [Ptr, I, EV.lit, Bs, SV, staC, SE, RE]), le_ok rfl, ?_⟩
  simp [Ptr, I, EV.lit, Bs, SV, staC, SE, RE]
  refine call0 (Encode_ok x hx hm) (by simp [Ptr, I, EV.lit, Bs, SV, staC, SE, RE]) ?_
  rintro y H' ⟨rfl, rfl⟩
  refine ⟨.inl (by simp [Ptr, I, EV.lit, Bs, SV, staC, SE, RE]), le_ok rfl, ?_⟩
  simp [Ptr, I, EV.lit, Bs, SV, staC, SE, RE]
  refine call0 (REncode_ok x hx hm) (by simp [Ptr, I, EV.lit, Bs, SV, staC, SE, RE]) ?_
  rintro y H' ⟨rfl, rfl⟩
  refine ⟨.inl (by simp [Ptr, I, EV.lit, Bs, SV, staC, SE, RE]), le_ok rfl, ?_⟩
  simp [Ptr, I, EV.lit, Bs, SV, staC, SE, RE]
  exact fin [] (by decide) rfl rfl rfl ⟨rfl, rfl⟩

set_option maxHeartbeats 2000000 in
theorem sure_ok : ECalls Tryd.prog 11 [] [] fun y H' => H' = [] ∧ y = .lit (.bool true) := by
  have hok : (Sta.mk 0 50 50 [] []).ok := by simp [Sta.ok, i64]
  have hv : moveS ⟨0, 50, 50, [], []⟩ 0 20 = (⟨1, 30, 70, [], []⟩, 0) := by simp [moveS, nxt, mayS, total, sumP, sumH, payL, holL]
  have hmv := Move_ok ⟨0, 50, 50, [], []⟩ 0 20 hok (by simp [i64]) (by simp [i64])
  rw [hv] at hmv
  refine ecalls k_sure ?_
  simp [c_sure]
  refine call0 (ecalls_nlS hmv) (by simp [Ptr, I, EV.lit, Bs, SV, staC, SE, RE]) ?_
  rintro y H' ⟨rfl, rfl⟩
  refine ⟨.inl (by simp [Ptr, I, EV.lit, Bs, SV, staC, SE, RE]), le_ok rfl, ?_⟩
  simp [Ptr, I, EV.lit, Bs, SV, staC, SE, RE]
  exact fin [] (by decide) rfl rfl rfl ⟨rfl, rfl⟩

set_option maxHeartbeats 2000000 in
theorem StateMoves_ok (s : Sta) (a b : Int) (hs : s.ok) (ha : i64 a) (hb : i64 b) : ECalls Tryd.prog 3 [SV s, I .i64 a, I .i64 b] [] fun y H' => H' = [] ∧ y = .lit (.bool true) := by
  refine ecalls k_StateMoves ?_
  simp [c_StateMoves, SV, staC, I]
  refine call0 (longState_ok s hs) (by simp [Ptr, I, EV.lit, Bs, SV, staC, SE, RE]) ?_
  rintro y H' ⟨rfl, rfl⟩
  refine ⟨.inl (by simp [Ptr, I, EV.lit, Bs, SV, staC, SE, RE]), le_ok rfl, ?_⟩
  simp
  refine alt (fun hl => ?_) (fun hl => ?_)
  · simp
    refine call0 (sure_ok) (by simp [Ptr, I, EV.lit, Bs, SV, staC, SE, RE]) ?_
    rintro y H' ⟨rfl, rfl⟩
    refine ⟨.inl (by simp [Ptr, I, EV.lit, Bs, SV, staC, SE, RE]), le_ok rfl, ?_⟩
    simp [Ptr, I, EV.lit, Bs, SV, staC, SE, RE]
    exact fin [] (by decide) rfl rfl rfl ⟨rfl, rfl⟩
  have hsm := (longS_small (by simpa using hl)).1
  obtain ⟨q1, q2⟩ := moveS_ok (a := a) (b := b) hs hsm
  simp
  refine call0 (giveState_ok s hs hsm) (by simp [Ptr, I, EV.lit, Bs, SV, staC, SE, RE]) ?_
  rintro y H' ⟨rfl, rfl⟩
  refine ⟨.inl (by simp [Ptr, I, EV.lit, Bs, SV, staC, SE, RE]), le_ok rfl, ?_⟩
  simp [Ptr, I, EV.lit, Bs, SV, staC, SE, RE]
  refine call0 (Move_ok s a b hs ha hb) (by simp [Ptr, I, EV.lit, Bs, SV, staC, SE, RE]) ?_
  rintro y H' ⟨rfl, rfl⟩
  refine ⟨.inl (by simp [Ptr, I, EV.lit, Bs, SV, staC, SE, RE]), le_ok rfl, ?_⟩
  simp [Ptr, I, EV.lit, Bs, SV, staC, SE, RE]
  refine call0 (RMove_ok s a b hs ha hb) (by simp [Ptr, I, EV.lit, Bs, SV, staC, SE, RE]) ?_
  rintro y H' ⟨rfl, rfl⟩
  refine ⟨.inl (by simp [Ptr, I, EV.lit, Bs, SV, staC, SE, RE]), le_ok rfl, ?_⟩
  simp [Ptr, I, EV.lit, Bs, SV, staC, SE, RE]
  refine call0 (same_ok (moveS s a b).1 (moveS s a b).2 q1 q2) (by simp [Ptr, I, EV.lit, Bs, SV, staC, SE, RE]) ?_
  rintro y H' ⟨rfl, rfl⟩
  refine ⟨.inl (by simp [Ptr, I, EV.lit, Bs, SV, staC, SE, RE]), le_ok rfl, ?_⟩
  simp [Ptr, I, EV.lit, Bs, SV, staC, SE, RE]
  refine call0 (sure_ok) (by simp [Ptr, I, EV.lit, Bs, SV, staC, SE, RE]) ?_
  rintro y H' ⟨rfl, rfl⟩
  refine ⟨.inl (by simp [Ptr, I, EV.lit, Bs, SV, staC, SE, RE]), le_ok rfl, ?_⟩
  simp [Ptr, I, EV.lit, Bs, SV, staC, SE, RE]
  exact fin [] (by decide) rfl rfl rfl ⟨rfl, rfl⟩

end Go.Proofs.YtpohjnhlhfbnaaaDoor

namespace Go.Proofs.YtpohjnhlhfbnaaaDoor
open Go Go.EW
set_option linter.unusedSimpArgs false

def intF (n : Int) : List FV := [.lit (.int .i64 n)]
theorem opn_ints : Opn BB Tryd.prog 55 (fun l : List Int => [FV.sl 1 (l.map intF)]) (fun l => (∀ x ∈ l, i64 x) ∧ l.length ≤ maxLen) (fun l => l.length + 1) :=
  (opn_slice bok (e := 3) (es := 1) (by kernel_rfl) (by kernel_rfl) (by omega) opn_i64).map id (fun _ _ => rfl) (fun _ h => h) (fun l _ => by rw [sumB_one]; exact Nat.le_refl _)

theorem opn_two : Opn BB Tryd.prog 22 (fun p : Int × Int => [FV.lit (.int .i64 p.1), .lit (.int .i64 p.2)]) (fun p => i64 p.1 ∧ i64 p.2) (fun _ => 1) :=
  (opn_array bok (e := 3) (es := 1) (n := 2) (by kernel_rfl) (by kernel_rfl) (by kernel_rfl) opn_i64).map (fun l => (l[0]?.getD 0, l[1]?.getD 0)) (by
    rintro l ⟨_, h⟩
    match l, h with
    | [a, b], _ => simp) (by
    rintro l ⟨h1, h⟩
    match l, h, h1 with
    | [a, b], _, h1 => exact ⟨h1 a (by simp), h1 b (by simp)⟩) (fun _ _ => by omega)

theorem opn_pay : Opn BB Tryd.prog 54 payF Pay.ok (fun _ => 1) :=
  (opn_struct (tot := 36) bok Tryd.underlying54 (by kernel_rfl)
    (opnFs_cons bok (n := 1) (tot := 35) opn_i64 rfl (by kernel_rfl) (opnFs_cons bok (n := 1) (tot := 34) opn_i64 rfl (by kernel_rfl)
      (opnFs_cons bok (n := 1) (tot := 33) opn_i64 rfl (by kernel_rfl) (opnFs_cons bok (n := 1) (tot := 32) opn_i64 rfl (by kernel_rfl)
      (opnFs_cons bok (n := 32) (tot := 0) opn_hash rfl (by kernel_rfl) opnFs_nil)))))).map
    (fun p => (⟨p.1, p.2.1, p.2.2.1, p.2.2.2.1, p.2.2.2.2.1⟩ : Pay)) (by rintro ⟨a, b, c, d, e, u⟩ _; simp [payF]) (by rintro ⟨a, b, c, d, e, u⟩ h; exact ⟨h.1, h.2.1, h.2.2.1, h.2.2.2.1, h.2.2.2.2.1⟩) (by rintro ⟨a, b, c, d, e, u⟩ _; simp)
theorem opn_hol : Opn BB Tryd.prog 57 holF (fun h => i64 h.id ∧ i64 h.am ∧ (∀ k ∈ h.keys, i64 k)) (fun h => h.keys.length + 1) :=
  (opn_struct (tot := 3) bok Tryd.underlying57 (by kernel_rfl)
    (opnFs_cons bok (n := 1) (tot := 2) opn_i64 rfl (by kernel_rfl) (opnFs_cons bok (n := 1) (tot := 1) opn_i64 rfl (by kernel_rfl)
      (opnFs_cons bok (n := 1) (tot := 0) opn_ints rfl (by kernel_rfl) opnFs_nil)))).map
    (fun p => (⟨p.1, p.2.1, p.2.2.1⟩ : Hol)) (by rintro ⟨a, b, c, u⟩ _; simp [holF, intv, intF]) (by rintro ⟨a, b, c, u⟩ h; exact ⟨h.1, h.2.1, h.2.2.1.1⟩) (by rintro ⟨a, b, c, u⟩ _; simp; omega)
theorem opn_pays : Opn BB Tryd.prog 23 (fun l : List Pay => [FV.sl 36 (payv l)]) (fun l => ∀ x ∈ l, x.ok) (fun l => l.length) :=
  (opn_slice bok (by kernel_rfl) (by kernel_rfl) (by omega) opn_pay).map id (fun _ _ => rfl) (fun _ h => h.1) (fun l _ => by rw [sumB_one]; simp)
theorem opn_hols : Opn BB Tryd.prog 24 (fun l : List Hol => [FV.sl 3 (holv l)]) (fun l => ∀ h ∈ l, i64 h.id ∧ i64 h.am ∧ (∀ k ∈ h.keys, i64 k)) (fun l => sumB (fun h : Hol => h.keys.length + 1) l) :=
  (opn_slice bok (by kernel_rfl) (by kernel_rfl) (by omega) opn_hol).map id (fun _ _ => rfl) (fun _ h => h.1) (fun l _ => by simp)
def Sta.ok0 (s : Sta) : Prop := i64 s.num ∧ i64 s.h0 ∧ i64 s.h1 ∧ (∀ p ∈ s.pays, p.ok) ∧ ∀ h ∈ s.holds, i64 h.id ∧ i64 h.am ∧ (∀ k ∈ h.keys, i64 k)
def staF (s : Sta) : List FV := [.lit (.int .i64 s.num), .lit (.int .i64 s.h0), .lit (.int .i64 s.h1), .sl 36 (payv s.pays), .sl 3 (holv s.holds)]
def staB (s : Sta) : Nat := s.pays.length + sumB (fun h : Hol => h.keys.length + 1) s.holds
theorem opn_sta : Opn BB Tryd.prog 26 staF Sta.ok0 staB :=
  (opn_struct (tot := 5) bok Tryd.underlying26 (by kernel_rfl)
    (opnFs_cons bok (n := 1) (tot := 4) opn_i64 rfl (by kernel_rfl) (opnFs_cons bok (n := 2) (tot := 2) opn_two rfl (by kernel_rfl)
      (opnFs_cons bok (n := 1) (tot := 1) opn_pays rfl (by kernel_rfl) (opnFs_cons bok (n := 1) (tot := 0) opn_hols rfl (by kernel_rfl) opnFs_nil))))).map
    (fun p => (⟨p.1, p.2.1.1, p.2.1.2, p.2.2.1, p.2.2.2.1⟩ : Sta)) (by rintro ⟨a, b, c, d, u⟩ _; simp [staF]) (by rintro ⟨a, b, c, d, u⟩ h; exact ⟨h.1, h.2.1.1, h.2.1.2, h.2.2.1, h.2.2.2.1⟩) (by rintro ⟨a, b, c, d, u⟩ _; simp [staB]; omega)
theorem sta_ok {s : Sta} (h : s.ok0) (hb : staB s ≤ 1048576) : s.ok := by
  have key : ∀ (l : List Hol), l.length ≤ sumB (fun h : Hol => h.keys.length + 1) l ∧ ∀ x ∈ l, x.keys.length ≤ sumB (fun h : Hol => h.keys.length + 1) l := by
    intro l
    induction l with
    | nil => simp
    | cons y r ih =>
      simp only [sumB, List.length_cons]
      refine ⟨by omega, ?_⟩
      intro x hx
      rcases List.mem_cons.1 hx with rfl | hx
      · omega
      · have := ih.2 x hx; omega
  obtain ⟨k1, k2⟩ := key s.holds
  unfold staB at hb
  refine ⟨h.1, h.2.1, h.2.2.1, h.2.2.2.1, fun x hx => ?_, by omega, by omega⟩
  have q := h.2.2.2.2 x hx
  have := k2 x hx
  exact ⟨q.1, q.2.1, q.2.2, by omega⟩

end Go.Proofs.YtpohjnhlhfbnaaaDoor

namespace Go.Proofs.YtpohjnhlhfbnaaaDoor
open Go Go.EW
set_option linter.unusedSimpArgs false
set_option linter.unusedVariables false

/- A state's copy: its payments, or its holds, as rows of one's own. -/
set_option maxHeartbeats 2000000 in
theorem nextP_ok (s : Sta) (hs : s.ok) (hmn : mayS s = true ∧ s.num ≠ 1099511627776) : ECalls Tryd.prog 37 [SV s] [] fun y H' => H' = [some (.row 61 36 (payv s.pays))] ∧ y = .tup [.agg [.fz (.lit (.int .i64 (s.num + 1))), .fz (.lit (.int .i64 s.h0)), .fz (.lit (.int .i64 s.h1)), .row 0 s.pays.length, .fz (.sl 3 (holv s.holds))], .c (.fz (.lit (errV 0)))] := by
  obtain ⟨ok1, ok2, ok3, ok4, ok5, ok6, ok7⟩ := id hs
  obtain ⟨hm, hn⟩ := hmn
  refine ecalls k_next ?_
  simp [c_next, SV, staC]
  refine call0 (Smay_ok s hs) (by simp [SV, staC]) ?_
  rintro y H' ⟨rfl, rfl⟩
  rw [hm]
  obtain ⟨hr, hp, hh, htot⟩ := mayS_t hm
  have w1 : IntKind.i64.wrap (s.num + 1) = s.num + 1 := wrap_i64 (by omega) (by omega)
  simp [EV.lit, hn, w1]
  refine call0 (cloneP_ok s.pays ok6) (by simp [PL]) ?_
  rintro y H' ⟨rfl, rfl⟩
  refine ⟨.inl (by simp), le_ok rfl, ?_⟩
  simp
  refine call0 (cloneH_ok s.holds ok7) (by simp [HL]) ?_
  rintro y H' ⟨rfl, rfl⟩
  refine ⟨.inl (by simp), le_ok rfl, ?_⟩
  simp
  refine eloop (α := Nat) (fun i => i ≤ s.holds.length) (fun i => s.holds.length - i)
    (fun i => [.any, Ptr 0, Ptr 1, .any, .any, .any, .any, .any, .any, .any, .any, .any, .any, .any, .any, .any, .any, .any, .any, .any, .any, .any, .any, .any, .any, .any, .any, .any, .any, I .i64 s.holds.length, I .i64 i, .any, .any, .any, .any, .any, .any, .any, .any, .any, .any, .any, .any, .any, .any, .any, .any]) (fun i => [some (.box 32 [.fz (.lit (.int .i64 (s.num + 1))), .fz (.lit (.int .i64 s.h0)), .fz (.lit (.int .i64 s.h1)), .row 2 s.pays.length, .row 3 s.holds.length]), some (.box 32 [.fz (.lit (.int .i64 0)), .fz (.lit (.int .i64 0)), .fz (.lit (.int .i64 0)), .fz (.lit (.slice none 0 0)), .fz (.lit (.slice none 0 0))]), some (.row 61 36 (payv s.pays)), some (.row 65 3 (holv s.holds))]) 0 [0, 16, 288, 336]
    (Nat.zero_le _) (by simp [Ptr, I]) (by simp [List.take_of_length_le]) (by simp) (by simp) (by simp) ?_
  intro i hi
  simp [Ptr, I]
  refine alt (fun hlt => ?_) (fun hlt => ?_)
  · obtain ⟨p, hc⟩ : ∃ p, s.holds[i]? = some p := ⟨s.holds[i], by simp [hlt]⟩
    have hpo := ok5 p (List.mem_of_getElem? hc)
    have hcb := holv_get hc
    have w2 : IntKind.i64.wrap ((i : Int) + 1) = ((i + 1 : Nat) : Int) := wrap_i64 (by omega) (by omega)
    have hset := hol_set hc
    have hge : (holv s.holds)[i]'(by simp [hlt]) = holF p := by
      have h := hcb
      rw [List.getElem?_eq_getElem (by simp [hlt])] at h
      exact Option.some.inj h
    simp [hge, holF, hlt]
    refine call0 (cloneI_ok p.keys hpo.2.2.2) (by simp [IL]) ?_
    rintro y H' ⟨rfl, rfl⟩
    refine ⟨.inl (by simp), le_ok rfl, ?_⟩
    have hset' : (holv s.holds).set i [.lit (.int .i64 p.id), .lit (.int .i64 p.am), .sl 1 (intv p.keys)] = holv s.holds := hset
    simp [hge, holF, hlt, w2, -Int.natCast_add]
    exact round (i + 1) [0, 1, 2, 3] (by omega) (by omega) (by simp) (by simp [hset', List.take_of_length_le]) (by simp) (by simp) (by simp)
  · have hil : i = s.holds.length := by omega
    subst hil
    simp [-errV_0]
    refine finW _ (weak_frz (o := 3) (ty := 65) (es := 3) (xs := holv s.holds) rfl) ?_
    exact fin [2] (by decide) rfl rfl rfl ⟨rfl, by simp [List.take_of_length_le, errV, -errV_0]⟩

set_option maxHeartbeats 2000000 in
theorem nextH_ok (s : Sta) (hs : s.ok) (hmn : mayS s = true ∧ s.num ≠ 1099511627776) : ECalls Tryd.prog 37 [SV s] [] fun y H' => H' = [some (.row 65 3 (holv s.holds))] ∧ y = .tup [.agg [.fz (.lit (.int .i64 (s.num + 1))), .fz (.lit (.int .i64 s.h0)), .fz (.lit (.int .i64 s.h1)), .fz (.sl 36 (payv s.pays)), .row 0 s.holds.length], .c (.fz (.lit (errV 0)))] := by
  obtain ⟨ok1, ok2, ok3, ok4, ok5, ok6, ok7⟩ := id hs
  obtain ⟨hm, hn⟩ := hmn
  refine ecalls k_next ?_
  simp [c_next, SV, staC]
  refine call0 (Smay_ok s hs) (by simp [SV, staC]) ?_
  rintro y H' ⟨rfl, rfl⟩
  rw [hm]
  obtain ⟨hr, hp, hh, htot⟩ := mayS_t hm
  have w1 : IntKind.i64.wrap (s.num + 1) = s.num + 1 := wrap_i64 (by omega) (by omega)
  simp [EV.lit, hn, w1]
  refine call0 (cloneP_ok s.pays ok6) (by simp [PL]) ?_
  rintro y H' ⟨rfl, rfl⟩
  refine ⟨.inl (by simp), le_ok rfl, ?_⟩
  simp
  refine call0 (cloneH_ok s.holds ok7) (by simp [HL]) ?_
  rintro y H' ⟨rfl, rfl⟩
  refine ⟨.inl (by simp), le_ok rfl, ?_⟩
  simp
  refine loopW _ (weak_frz (o := 288) (ty := 61) (es := 36) (xs := payv s.pays) rfl) ?_
  refine eloop (α := Nat) (fun i => i ≤ s.holds.length) (fun i => s.holds.length - i)
    (fun i => [.any, Ptr 0, Ptr 1, .any, .any, .any, .any, .any, .any, .any, .any, .any, .any, .any, .any, .any, .any, .any, .any, .any, .any, .any, .any, .any, .any, .any, .any, .any, .any, I .i64 s.holds.length, I .i64 i, .any, .any, .any, .any, .any, .any, .any, .any, .any, .any, .any, .any, .any, .any, .any, .any]) (fun i => [some (.box 32 [.fz (.lit (.int .i64 (s.num + 1))), .fz (.lit (.int .i64 s.h0)), .fz (.lit (.int .i64 s.h1)), .fz (.sl 36 (payv s.pays)), .row 2 s.holds.length]), some (.box 32 [.fz (.lit (.int .i64 0)), .fz (.lit (.int .i64 0)), .fz (.lit (.int .i64 0)), .fz (.lit (.slice none 0 0)), .fz (.lit (.slice none 0 0))]), some (.row 65 3 (holv s.holds))]) 0 [0, 16, 336]
    (Nat.zero_le _) (by simp [Ptr, I]) (by simp [List.take_of_length_le]) (by simp) (by simp) (by simp) ?_
  intro i hi
  simp [Ptr, I]
  refine alt (fun hlt => ?_) (fun hlt => ?_)
  · obtain ⟨p, hc⟩ : ∃ p, s.holds[i]? = some p := ⟨s.holds[i], by simp [hlt]⟩
    have hpo := ok5 p (List.mem_of_getElem? hc)
    have hcb := holv_get hc
    have w2 : IntKind.i64.wrap ((i : Int) + 1) = ((i + 1 : Nat) : Int) := wrap_i64 (by omega) (by omega)
    have hset := hol_set hc
    have hge : (holv s.holds)[i]'(by simp [hlt]) = holF p := by
      have h := hcb
      rw [List.getElem?_eq_getElem (by simp [hlt])] at h
      exact Option.some.inj h
    simp [hge, holF, hlt]
    refine call0 (cloneI_ok p.keys hpo.2.2.2) (by simp [IL]) ?_
    rintro y H' ⟨rfl, rfl⟩
    refine ⟨.inl (by simp), le_ok rfl, ?_⟩
    have hset' : (holv s.holds).set i [.lit (.int .i64 p.id), .lit (.int .i64 p.am), .sl 1 (intv p.keys)] = holv s.holds := hset
    simp [hge, holF, hlt, w2, -Int.natCast_add]
    exact round (i + 1) [0, 1, 2] (by omega) (by omega) (by simp) (by simp [hset', List.take_of_length_le]) (by simp) (by simp) (by simp)
  · have hil : i = s.holds.length := by omega
    subst hil
    simp [-errV_0]
    exact fin [2] (by decide) rfl rfl rfl ⟨rfl, by simp [List.take_of_length_le, errV, -errV_0]⟩

end Go.Proofs.YtpohjnhlhfbnaaaDoor

/- slices.Insert (one element) and slices.Delete (one element) on an own row, out of their walks ("roads"): what a program's own texts show by walking. -/
namespace Go.EW
set_option linter.unusedVariables false
set_option linter.unusedSimpArgs false
open Go Go.Lib
variable {P : Program}

/-- A copy into a row whose cells are known. -/
theorem run_copy_row (w : World) (dT sT ty elem : TypeId) (i : TypeInfo) (g o dLen dCap : Nat) (a : Addr) (sLen sCap : Nat) (cs : List Value) (cur : Array Value) (t : TypeId)
    (hu : P.underlying dT = some (.slice elem)) (hi : P.info? elem = some i) (hn : cs.length = Nat.min sLen dLen * i.size) (hg : w.heap[g]? = some (.cells cur t (0, 0))) (hl : o + cs.length ≤ cur.size)
    (hsrc : ∀ j v, cs[j]? = some v → w.cell? (a.add j) = some v) (h1 : ∀ v ∈ cs, v.oneCell' = true) :
    (Builtin.copy_ #[dT, sT] ty #[.slice (some ⟨g, o, none⟩) dLen dCap, .slice (some a) sLen sCap]).run P w = .ok (goInt (Nat.min sLen dLen)) (w.setRow g (cur.toList.take o ++ cs ++ cur.toList.drop (o + cs.length)).toArray) := by
  have hf := run_firstCells_some (P := P) w i.size (Nat.min sLen dLen) a sLen sCap cs hn hsrc
  have hst := run_storeCells_at P g o t cs 0 cur w hg (by omega) h1
  simp only [Nat.add_zero] at hst
  simp [Builtin.copy_, run_underlying hu, Builtin.lenOf, sizeOf, typeInfo, hi, hf, hst]

/-- An operation 'copy(d, s)' whose run is known by an equation. -/
theorem wp_copy_runI (w : World) {o : Oper} {a : Act} {K : Act → World → Prop} {Q : Exit → Act → World → Prop} (d s : Operand) (t t' : TypeId)
    (ho : o.op = .call { callee := .builtin .copy, args := #[d, s], argTypes := #[t, t'] }) (v u : Value) (hd : a.eval d = v) (hs : a.eval s = u) {v' : Value} {w' : World}
    (hr : (Builtin.copy_ #[t, t'] o.type #[v, u]).run P w = .ok v' w') (h : K (a.put o.dst v') w') : o.wp P a w K Q := by
  unfold Oper.wp execOp
  simp only [ho, resolve, invoke, builtin, Sem.run_bind, Sem.run_pure, Result.andThen_ok, List.map_toArray, List.map_cons, List.map_nil, hd, hs, hr]
  exact h
theorem wpList_copy_runI (w : World) {ops : Array Oper} {rest : List Oper} {o : Oper} {a : Act} {Q : Exit → Act → World → Prop} (hgd : o.guard = none) (d s : Operand) (t t' : TypeId)
    (ho : o.op = .call { callee := .builtin .copy, args := #[d, s], argTypes := #[t, t'] }) (v u : Value) (hd : a.eval d = v) (hs : a.eval s = u) {v' : Value} {w' : World}
    (hr : (Builtin.copy_ #[t, t'] o.type #[v, u]).run P w = .ok v' w') (h : wpList P ops Q rest (a.put o.dst v') w') : wpList P ops Q (o :: rest) a w :=
  wpList_plain hgd fun _ hK => wp_copy_runI w d s t t' ho v u hd hs hr (hK _ _ h)
theorem step_copy_runI {ops : Array Oper} {o : Oper} {a : Act} {w : World} {K : Act → World → Prop} {Q : Exit → Act → World → Prop} {E : Prop}
    (hg : o.guard = none) (d x : Operand) (dT sT : TypeId) (hop : o.op = Op.call { callee := Callee.builtin Builtin.copy, args := #[d, x], argTypes := #[dT, sT] })
    (v u : Value) (hd : a.eval d = v) (hx : a.eval x = u) {v' : Value} {w' : World} (hr : (Builtin.copy_ #[dT, sT] o.type #[v, u]).run P w = .ok v' w') (hK : K (a.put o.dst v') w') :
    if Region.wanted o (yielded ops a.tmps) = true then Oper.wp P o a w K Q else E := by
  have hw : Region.wanted o (yielded ops a.tmps) = true := by simp [Region.wanted, hg]
  rw [if_pos hw]
  unfold Oper.wp
  simp [execOp, hop, resolve, invoke, builtin, hd, hx, hr, Result.andThen]
  exact hK
theorem step_append_runI {ops : Array Oper} {o : Oper} {a : Act} {w : World} {K : Act → World → Prop} {Q : Exit → Act → World → Prop} {E : Prop}
    (hg : o.guard = none) (d x : Operand) (dT sT : TypeId) (hop : o.op = Op.call { callee := Callee.builtin Builtin.append, args := #[d, x], argTypes := #[dT, sT] })
    (v u : Value) (hd : a.eval d = v) (hx : a.eval x = u) {v' : Value} {w' : World} (hr : (Builtin.append_ #[dT, sT] o.type #[v, u]).run P w = .ok v' w') (hK : K (a.put o.dst v') w') :
    if Region.wanted o (yielded ops a.tmps) = true then Oper.wp P o a w K Q else E := by
  have hw : Region.wanted o (yielded ops a.tmps) = true := by simp [Region.wanted, hg]
  rw [if_pos hw]
  unfold Oper.wp
  simp [execOp, hop, resolve, invoke, builtin, hd, hx, hr, Result.andThen]
  exact hK

/-! ### the roads -/
def InsShift (P : Program) (f fov : FuncId) (tS : TypeId) (es : Nat) : Prop := ∀ (g n c i vb mc : Nat) (W1 W2 w : World), i < n → n + 1 ≤ c → c ≤ 9223372036854775807 →
  (∀ lb cb, (callFunc fov #[.slice (some ⟨vb, 0, none⟩) 1 mc, .slice (some ⟨g, (i + 1) * es, none⟩) lb cb]).run P w = .ok (.value (.bool false)) w) →
  (∀ ty, (Builtin.copy_ #[tS, tS] ty #[.slice (some ⟨g, (i + 1) * es, none⟩) (n - i) (c - (i + 1)), .slice (some ⟨g, i * es, none⟩) (n + 1 - i) (c - i)]).run P w.drew = .ok (goInt ((n - i : Nat) : Int)) W1) →
  (∀ ty, (Builtin.copy_ #[tS, tS] ty #[.slice (some ⟨g, i * es, none⟩) (n + 1 - i) (c - i), .slice (some ⟨vb, 0, none⟩) 1 mc]).run P W1 = .ok (goInt 1) W2) →
  Calls P f #[.slice (some ⟨g, 0, none⟩) n c, .int .i64 i, .slice (some ⟨vb, 0, none⟩) 1 mc] w fun e w' => e = .returned (.slice (some ⟨g, 0, none⟩) (n + 1) c) ∧ w' = W2
def InsEnd (P : Program) (f : FuncId) (tS : TypeId) : Prop := ∀ (base : Option Addr) (n c vb m mc : Nat) (v' : Value) (w W1 : World), n ≤ c → 0 < m →
  ((Builtin.append_ #[tS, tS] tS #[.slice base n c, .slice (some ⟨vb, 0, none⟩) m mc]).run P w = .ok v' W1) →
  Calls P f #[.slice base n c, .int .i64 n, .slice (some ⟨vb, 0, none⟩) m mc] w fun e w' => e = .returned v' ∧ w' = W1
def InsGrow (P : Program) (f : FuncId) (tS tI : TypeId) (es : Nat) : Prop := ∀ (g n c i vb mc g2 C : Nat) (W1 W2 W3 w : World), i < n → n ≤ c → c < n + 1 → c ≤ 9223372036854775806 → n + 1 ≤ C → C ≤ 9223372036854775807 →
  (∀ ty, (Builtin.append_ #[tS, tI] ty #[.slice (some ⟨g, 0, none⟩) i c, .int .i64 ((n : Int) + 1 - (i : Int))]).run P w = .ok (.slice (some ⟨g2, 0, none⟩) (n + 1) C) W1) →
  (∀ ty, (Builtin.copy_ #[tS, tS] ty #[.slice (some ⟨g2, i * es, none⟩) (n + 1 - i) (C - i), .slice (some ⟨vb, 0, none⟩) 1 mc]).run P W1 = .ok (goInt 1) W2) →
  (∀ ty, (Builtin.copy_ #[tS, tS] ty #[.slice (some ⟨g2, (i + 1) * es, none⟩) (n - i) (C - (i + 1)), .slice (some ⟨g, i * es, none⟩) (n - i) (c - i)]).run P W2.drew = .ok (goInt ((n - i : Nat) : Int)) W3) →
  Calls P f #[.slice (some ⟨g, 0, none⟩) n c, .int .i64 i, .slice (some ⟨vb, 0, none⟩) 1 mc] w fun e w' => e = .returned (.slice (some ⟨g2, 0, none⟩) (n + 1) C) ∧ w' = W3
def DelOne (P : Program) (f : FuncId) (tS : TypeId) (es : Nat) : Prop := ∀ (g n c i j k : Nat) (A : Addr) (W1 W2 w : World), j = i + 1 → k = n - 1 → j ≤ n → n ≤ c → c ≤ 9223372036854775807 →
  ((if c = j then some (⟨g, 0, none⟩ : Addr) else some ⟨g, j * es, none⟩) = some A) →
  (∀ ty, (Builtin.append_ #[tS, tS] ty #[.slice (some ⟨g, 0, none⟩) i c, .slice (some A) (n - j) (c - j)]).run P w.drew = .ok (.slice (some ⟨g, 0, none⟩) k c) W1) →
  (∀ ty, (Builtin.clear_ #[tS] ty #[.slice (some ⟨g, k * es, none⟩) (n - k) (c - k)]).run P W1 = .ok (.tuple #[]) W2) →
  Calls P f #[.slice (some ⟨g, 0, none⟩) n c, .int .i64 i, .int .i64 j] w fun e w' => e = .returned (.slice (some ⟨g, 0, none⟩) k c) ∧ w' = W2

/-- What is known of a slice's element type. -/
structure ElemT (P : Program) (tS e : TypeId) (es bytes : Nat) (ti : TypeInfo) (z : Value) : Prop where
  u : P.underlying tS = some (.slice e)
  hi : P.info? e = some ti
  hz : ti.zero = some z
  hs : ti.size = es
  hb : ti.bytes = bytes
  zs : z.cells.size = es
  zo : ∀ u ∈ z.cells.toList, u.oneCell' = true
  pos : 0 < es

theorem elemT_of {P : Program} {tS e : TypeId} {es bytes : Nat} (hu : P.underlying tS = some (.slice e)) (hz : (zer P e).map (·.length) = some es) (hs : (P.info? e).map (·.size) = some es) (hb : (P.info? e).map (·.bytes) = some bytes) (hp : 0 < es) :
    ∃ ti z, ElemT P tS e es bytes ti z := by
  obtain ⟨zl, hz1, hz2⟩ := Option.map_eq_some_iff.1 hz
  obtain ⟨i', zv, hi', hzi, hzc, hone⟩ := zer_some hz1
  rw [hi'] at hs hb
  simp only [Option.map_some, Option.some.injEq] at hs hb
  refine ⟨i', zv, hu, hi', hzi, hs, hb, by rw [← hz2, ← hzc]; simp, ?_, hp⟩
  intro u hu'
  rw [hzc] at hu'
  exact hone u hu'
theorem addr_add {b o j : Nat} : (⟨b, o, none⟩ : Addr).add j = ⟨b, o + j, none⟩ := Addr.add_lit ..
theorem row_cell {w : World} {g : Nat} {cur : Array Value} {e : TypeId} (hg : w.heap[g]? = some (.cells cur e (0, 0))) {L : List Value} {o : Nat} (h : ∀ (j : Nat) (u : Value), L[j]? = some u → cur.toList[o + j]? = some u) :
    ∀ (j : Nat) (u : Value), L[j]? = some u → w.cell? ((⟨g, o, none⟩ : Addr).add j) = some u := by
  intro j u hu
  rw [addr_add, cell_of_row w g (o + j) cur e (0, 0) hg]
  simpa using h j u hu

/-- The insertion, as a step of the world. -/
theorem ins_run {f fov : FuncId} {tS tI e tB : TypeId} {es bytes : Nat} {ti : TypeInfo} {z : Value} (E : ElemT P tS e es bytes ti z) (hI : P.underlying tI = some (.int .i64))
    (hs : InsShift P f fov tS es) (he : InsEnd P f tS) (hgr : InsGrow P f tS tI es)
    (hfov : ∀ w a b, (callFunc fov #[a, b]).run P w = ((Extern.SlicesOverlaps.overlaps #[tS, tS] #[tB] #[a, b]).run P w).andThen fun v w' => .ok (.value v) w')
    (w : World) (base : Option Addr) (n cap i vb mc : Nat) (flat vs : List Value) (cur1 : Array Value) (how : w.ownsRow 0 e es (.slice base n cap) n flat) (hvr : w.heap[vb]? = some (.cells cur1 e (0, 0))) (hv1 : cur1.toList.take es = vs) (hvl : vs.length = es) (hmc : 1 ≤ mc)
    (h1f : ∀ u ∈ flat, u.oneCell' = true) (h1v : ∀ u ∈ vs, u.oneCell' = true) (hne : ∀ a, base = some a → a.block ≠ vb) (hin : i ≤ n) (hn : n + 1 ≤ 1000000000) (hby : (n + 1) * bytes ≤ 140737488355328) :
    ∃ v' W', (Calls P f #[.slice base n cap, .int .i64 i, .slice (some ⟨vb, 0, none⟩) 1 mc] w fun e w' => e = .returned v' ∧ w' = W') ∧ W'.ownsRow 0 e es v' (n + 1) (flat.take (i * es) ++ vs ++ flat.drop (i * es)) ∧
      w.grownBy W' (Value.slice base n cap).ownBlock ∧ (v'.ownBlock = (Value.slice base n cap).ownBlock ∨ v'.ownBlock = some w.heap.size) := by
  have hvc : ∀ (j : Nat) (u : Value), vs[j]? = some u → cur1.toList[0 + j]? = some u := by
    intro j u hu
    rw [← hv1, List.getElem?_take] at hu
    split at hu
    · simpa using hu
    · simp at hu
  have hvlt : vb < w.heap.size := (Array.getElem?_eq_some_iff.1 hvr).1
  have hi' := E.hi
  have hpos := E.pos
  by_cases hie : i = n
  · subst hie
    obtain ⟨v', W', hrun, hown, hg, hnil, hat⟩ := run_append_own_at (P := P) w 0 tS tS e ti z es bytes E.u E.hi E.hz E.hs E.hb E.zs E.pos (.slice base i cap) i flat how ⟨vb, 0, none⟩ 1 mc vs (by rw [hvl]; omega)
      (row_cell hvr hvc) h1v (by unfold maxLen; omega) hby (Nat.zero_le _)
    have hnc : i ≤ cap := by
      rcases how.2 with ⟨h1, h2⟩ | ⟨g, cap', cur, h1, _, _, h2, _⟩
      · simp only [Value.slice.injEq] at h1; omega
      · simp only [Value.slice.injEq] at h1; omega
    refine ⟨v', W', he base i cap vb 1 mc v' w W' hnc (by omega) hrun, ?_, hg, hat⟩
    have h1 : flat.take (i * es) = flat := List.take_of_length_le (by rw [how.1]; omega)
    have h2 : flat.drop (i * es) = [] := List.drop_of_length_le (by rw [how.1]; omega)
    rw [h1, h2, List.append_nil]
    exact hown
  · have hlt : i < n := by omega
    rcases how.2 with ⟨h1, h2⟩ | ⟨g, cap', cur, h1, _, hg, hnc, hcm, hcs, htk⟩
    · omega
    · simp only [Value.slice.injEq] at h1
      obtain ⟨rfl, _, rfl⟩ := h1
      have hgv : g ≠ vb := hne _ rfl
      have hml : cap ≤ 9223372036854775807 := by unfold maxLen at hcm; omega
      have hfl : flat.length = n * es := how.1
      -- what stands in the row
      obtain ⟨A, hA⟩ : ∃ A, A = flat.take (i * es) := ⟨_, rfl⟩
      obtain ⟨B, hB⟩ : ∃ B, B = flat.drop (i * es) := ⟨_, rfl⟩
      have hmul : i * es + (n - i) * es = n * es := by rw [← Nat.add_mul]; congr 1; omega
      have hm1 : (i + 1) * es = i * es + es := by rw [Nat.add_mul]; omega
      have hm2 : (n + 1) * es = n * es + es := by rw [Nat.add_mul]; omega
      have hAl : A.length = i * es := by rw [hA, List.length_take]; omega
      have hBl : B.length = (n - i) * es := by rw [hB, List.length_drop]; omega
      have hAB : flat = A ++ B := by rw [hA, hB, List.take_append_drop]
      have hncm : n * es ≤ cap * es := Nat.mul_le_mul_right _ hnc
      obtain ⟨sp, hsp⟩ : ∃ sp, cur.toList = A ++ (B ++ sp) := ⟨cur.toList.drop (n * es), by rw [← List.append_assoc, ← hAB, ← htk, List.take_append_drop]⟩
      have hcl : cur.toList.length = cap * es := by simpa using hcs
      have hspl : i * es + ((n - i) * es + sp.length) = cap * es := by rw [← hcl, hsp]; simp [hAl, hBl]
      have h1B : ∀ u ∈ B, u.oneCell' = true := fun u hu => h1f u (by rw [hAB]; exact List.mem_append_right _ hu)
      have hBc : ∀ (j : Nat) (u : Value), B[j]? = some u → cur.toList[i * es + j]? = some u := by
        intro j u hu
        rw [hsp, List.getElem?_append_right (by omega), hAl, show i * es + j - i * es = j by omega, List.getElem?_append_left (lt_of_get hu)]
        exact hu
      rw [← hA, ← hB]
      by_cases hroom : n + 1 ≤ cap
      · have hcap1 : (n + 1) * es ≤ cap * es := Nat.mul_le_mul_right _ hroom
        have hov : ∀ lb cb, (callFunc fov #[.slice (some ⟨vb, 0, none⟩) 1 mc, .slice (some ⟨g, (i + 1) * es, none⟩) lb cb]).run P w = .ok (.value (.bool false)) w := fun lb cb => by
          rw [hfov, Lib.run_overlaps_apart w tS tB e E.u es (fun w => by simp [sizeOf, typeInfo, hi', E.hs]) ⟨vb, 0, none⟩ ⟨g, (i + 1) * es, none⟩ 1 mc lb cb (by simpa using hgv.symm) e e cur1.size cur.size (by simp [World.shape?, hvr]) (by simp [World.shape?, hg]) (by rw [hcs]; omega) (by simp [World.frozen?, hvr]) (by simp [World.frozen?, hvr])]
          rfl
        -- the first copy
        have hg' : w.drew.heap[g]? = some (.cells cur e (0, 0)) := hg
        have hc1 := fun ty => run_copy_row (P := P) w.drew tS tS ty e ti g ((i + 1) * es) (n - i) (cap - (i + 1)) ⟨g, i * es, none⟩ (n + 1 - i) (cap - i) B cur e E.u hi' (by rw [hBl, E.hs]; congr 1; simp only [Nat.min_def]; split <;> omega) hg' (by rw [hBl, hcs]; omega) (row_cell hg' hBc) h1B
        rw [show Nat.min (n + 1 - i) (n - i) = n - i by simp only [Nat.min_def]; split <;> omega] at hc1
        obtain ⟨cur2, hcur2⟩ : ∃ cur2, (cur.toList.take ((i + 1) * es) ++ B ++ cur.toList.drop ((i + 1) * es + B.length)).toArray = cur2 := ⟨_, rfl⟩
        rw [hcur2] at hc1
        have hw2 := setRow_heap w.drew g cur cur2 e (0, 0) hg'
        have hl2 : cur2.toList = A ++ ((cur.toList.drop (i * es)).take es ++ (B ++ cur.toList.drop ((i + 1) * es + B.length))) := by
          rw [← hcur2]
          have : cur.toList.take ((i + 1) * es) = A ++ (cur.toList.drop (i * es)).take es := by
            rw [hm1, List.take_add]
            congr 1
            rw [hsp, List.take_left' hAl]
          simp only [this, List.append_assoc]
        have hX : ((cur.toList.drop (i * es)).take es).length = es := by rw [List.length_take, List.length_drop, hcl]; omega
        obtain ⟨R, hR⟩ : ∃ R, cur.toList.drop ((i + 1) * es + B.length) = R := ⟨_, rfl⟩
        rw [hR] at hl2
        have hrest : R.length = cap * es - (n + 1) * es := by rw [← hR, List.length_drop, hcl, hBl]; omega
        have hs2 : cur2.size = cap * es := by
          have : cur2.toList.length = cap * es := by rw [hl2]; simp only [List.length_append, hAl, hX, hBl, hrest]; omega
          simpa using this
        -- the second copy
        have hvr2 : (w.drew.setRow g cur2).heap[vb]? = some (.cells cur1 e (0, 0)) := by rw [setRow_other _ _ _ _ hgv.symm]; exact hvr
        have hc2 := fun ty => run_copy_row (P := P) (w.drew.setRow g cur2) tS tS ty e ti g (i * es) (n + 1 - i) (cap - i) ⟨vb, 0, none⟩ 1 mc vs cur2 e E.u hi' (by rw [hvl, E.hs, show Nat.min 1 (n + 1 - i) = 1 by simp only [Nat.min_def]; split <;> omega]; omega) hw2 (by rw [hvl, hs2]; omega) (row_cell hvr2 hvc) h1v
        rw [show Nat.min 1 (n + 1 - i) = 1 by simp only [Nat.min_def]; split <;> omega] at hc2
        refine ⟨_, _, hs g n cap i vb mc _ _ w hlt hroom hml hov hc1 hc2, ⟨?_, .inr ⟨g, cap, _, rfl, Nat.zero_le _, setRow_heap _ _ _ _ _ _ hw2, hroom, hcm, ?_, ?_⟩⟩, ⟨rfl, rfl, rfl, by simp, ?_⟩, .inl rfl⟩
        · simp only [List.length_append, hAl, hvl, hBl]; omega
        · simp only [List.size_toArray, List.length_append, List.length_take, List.length_drop]
          have : cur2.toList.length = cap * es := by simpa using hs2
          omega
        · have e1 : cur2.toList.take (i * es) = A := by rw [hl2, List.take_left' hAl]
          have e2 : cur2.toList.drop (i * es + vs.length) = B ++ R := by
            rw [hl2, hvl, ← List.drop_drop, List.drop_left' hAl, List.drop_left' hX]
          simp only [e1, e2]
          rw [← List.append_assoc, List.take_left']
          simp only [List.length_append, hAl, hvl, hBl]; omega
        · intro k hk hne'
          have hkg : k ≠ g := by rintro rfl; exact hne' rfl
          rw [setRow_other _ _ _ _ hkg, setRow_other _ _ _ _ hkg]
          rfl
      · have hcn : cap = n := by omega
        subst hcn
        have hold : (Builtin.firstCells ti.size i (.slice (some ⟨g, 0, none⟩) i cap)).run P w.drew = .ok A.toArray w.drew :=
          run_firstCells_some w.drew ti.size i ⟨g, 0, none⟩ i cap A (by rw [hAl, E.hs]) (row_cell (show w.drew.heap[g]? = some (.cells cur e (0, 0)) from hg) fun j u hu => by
            rw [hsp, Nat.zero_add, List.getElem?_append_left (lt_of_get hu)]; exact hu)
        have hge := grownCap_ge w (cap + 1) cap e
        have hgm := grownCap_le_maxLen w (cap + 1) cap e (by unfold maxLen; omega)
        have hap := fun ty => Lib.run_append_grow_zeros (P := P) w tS tI ty e ti z .i64 .i64 E.u hI E.hi E.hz (some ⟨g, 0, none⟩) i cap A hold (cap + 1 - i) (by omega) (by rw [E.hs]; exact hpos) (by omega) (by omega)
          (by
            have : (cap + 1 - i) * ti.bytes ≤ (cap + 1) * ti.bytes := Nat.mul_le_mul_right _ (by omega)
            rw [E.hb] at this ⊢; omega)
          (by rw [show i + (cap + 1 - i) = cap + 1 by omega, E.hb]; exact growslice_fits (by omega) hby)
        rw [show i + (cap + 1 - i) = cap + 1 by omega] at hap
        obtain ⟨C, hC⟩ : ∃ C, grownCap w (cap + 1) cap e = C := ⟨_, rfl⟩
        rw [hC] at hge hgm hap
        have hCe : (cap + 1) * es ≤ C * es := Nat.mul_le_mul_right _ hge
        obtain ⟨ROW, hROW⟩ : ∃ ROW, (A.toArray ++ Builtin.zeroCells z.cells (cap + 1 - i) ++ Builtin.zeroCells z.cells (C - (cap + 1))) = ROW := ⟨_, rfl⟩
        rw [hROW] at hap
        obtain ⟨Z, hRl⟩ : ∃ Z, ROW.toList = A ++ Z := ⟨(Builtin.zeroCells z.cells (cap + 1 - i)).toList ++ (Builtin.zeroCells z.cells (C - (cap + 1))).toList, by rw [← hROW]; simp⟩
        have hRs : ROW.size = C * es := by
          rw [← hROW]
          simp only [Array.size_append, List.size_toArray, size_zeroCells, E.zs, hAl]
          rw [← Nat.add_mul, ← Nat.add_mul]
          congr 1
          omega
        have hZl : i * es + Z.length = C * es := by
          have : ROW.toList.length = C * es := by simpa using hRs
          rw [hRl, List.length_append, hAl] at this
          exact this
        obtain ⟨W1, hW1⟩ : ∃ W1, w.drew.alloc (.cells ROW e) = W1 := ⟨_, rfl⟩
        rw [hW1] at hap
        have hN : W1.heap[w.heap.size]? = some (.cells ROW e (0, 0)) := by rw [← hW1]; exact Go.heap_alloc_new w.drew _
        have hO : ∀ k, k < w.heap.size → W1.heap[k]? = w.heap[k]? := fun k hk => by rw [← hW1]; first | exact heap_alloc_old w.drew _ k hk | exact heap_alloc_old w.drew _ hk
        have hgl : g < w.heap.size := (Array.getElem?_eq_some_iff.1 hg).1
        have hvr1 : W1.heap[vb]? = some (.cells cur1 e (0, 0)) := by rw [hO vb hvlt]; exact hvr
        have hc1 := fun ty => run_copy_row (P := P) W1 tS tS ty e ti w.heap.size (i * es) (cap + 1 - i) (C - i) ⟨vb, 0, none⟩ 1 mc vs ROW e E.u hi' (by rw [hvl, E.hs, show Nat.min 1 (cap + 1 - i) = 1 by simp only [Nat.min_def]; split <;> omega]; omega) hN (by rw [hvl, hRs]; omega) (row_cell hvr1 hvc) h1v
        rw [show Nat.min 1 (cap + 1 - i) = 1 by simp only [Nat.min_def]; split <;> omega] at hc1
        obtain ⟨R2, hR2⟩ : ∃ R2, (ROW.toList.take (i * es) ++ vs ++ ROW.toList.drop (i * es + vs.length)).toArray = R2 := ⟨_, rfl⟩
        rw [hR2] at hc1
        have hl2 : R2.toList = A ++ (vs ++ Z.drop es) := by
          rw [← hR2, hRl, hvl, List.take_left' hAl, ← List.drop_drop, List.drop_left' hAl]
          simp
        have hs2 : R2.size = C * es := by
          have : R2.toList.length = C * es := by rw [hl2]; simp only [List.length_append, hAl, hvl, List.length_drop]; omega
          simpa using this
        have hN2 := setRow_heap W1 w.heap.size ROW R2 e (0, 0) hN
        have hg2 : (W1.setRow w.heap.size R2).drew.heap[g]? = some (.cells cur e (0, 0)) := by
          show (W1.setRow w.heap.size R2).heap[g]? = _
          rw [setRow_other _ _ _ _ (by omega), hO g hgl]
          exact hg
        have hN2' : (W1.setRow w.heap.size R2).drew.heap[w.heap.size]? = some (.cells R2 e (0, 0)) := hN2
        have hc2 := fun ty => run_copy_row (P := P) (W1.setRow w.heap.size R2).drew tS tS ty e ti w.heap.size ((i + 1) * es) (cap - i) (C - (i + 1)) ⟨g, i * es, none⟩ (cap - i) (cap - i) B R2 e E.u hi' (by rw [hBl, E.hs]; congr 1; simp only [Nat.min_def]; split <;> omega) hN2' (by rw [hBl, hs2]; omega) (row_cell hg2 hBc) h1B
        rw [show Nat.min (cap - i) (cap - i) = cap - i by simp only [Nat.min_def]; split <;> omega] at hc2
        refine ⟨_, _, hgr g cap cap i vb mc w.heap.size C _ _ _ w hlt (Nat.le_refl _) (by omega) (by omega) hge (by unfold maxLen at hgm; omega) (fun ty => by rw [show (cap : Int) + 1 - (i : Int) = ((cap + 1 - i : Nat) : Int) by omega]; exact hap ty) hc1 hc2,
          ⟨?_, .inr ⟨w.heap.size, C, _, rfl, Nat.zero_le _, setRow_heap _ _ _ _ _ _ hN2', hge, hgm, ?_, ?_⟩⟩, ⟨?_, ?_, ?_, ?_, ?_⟩, .inr rfl⟩
        · simp only [List.length_append, hAl, hvl, hBl]; omega
        · simp only [List.size_toArray, List.length_append, List.length_take, List.length_drop]
          have : R2.toList.length = C * es := by simpa using hs2
          omega
        · have e1 : R2.toList.take ((i + 1) * es) = A ++ vs := by rw [hl2, ← List.append_assoc, List.take_left' (by rw [List.length_append, hAl, hvl, hm1])]
          simp only [e1]
          rw [List.take_left']
          simp only [List.length_append, hAl, hvl, hBl]; omega
        · rw [← hW1]; rfl
        · rw [← hW1]; rfl
        · rw [← hW1]; rfl
        · rw [← hW1]; simp
        · intro k hk _
          rw [setRow_other _ _ _ _ (by omega)]
          show (W1.setRow w.heap.size R2).heap[k]? = _
          rw [setRow_other _ _ _ _ (by omega), hO k hk]

/-- One element taken out, as a step of the world. -/
theorem del_run {f : FuncId} {tS e : TypeId} {es bytes : Nat} {ti : TypeInfo} {z : Value} (E : ElemT P tS e es bytes ti z) (hd : DelOne P f tS es)
    (w : World) (base : Option Addr) (n cap i : Nat) (flat : List Value) (how : w.ownsRow 0 e es (.slice base n cap) n flat) (h1f : ∀ u ∈ flat, u.oneCell' = true) (hin : i < n) :
    ∃ v' W', (Calls P f #[.slice base n cap, .int .i64 i, .int .i64 ((i : Int) + 1)] w fun e w' => e = .returned v' ∧ w' = W') ∧ W'.ownsRow 0 e es v' (n - 1) (flat.take (i * es) ++ flat.drop ((i + 1) * es)) ∧
      w.grownBy W' (Value.slice base n cap).ownBlock ∧ (v'.ownBlock = (Value.slice base n cap).ownBlock ∨ v'.ownBlock = some w.heap.size) := by
  have hi' := E.hi
  have hpos := E.pos
  rcases how.2 with ⟨h1, h2⟩ | ⟨g, cap', cur, h1, _, hg, hnc, hcm, hcs, htk⟩
  · omega
  · simp only [Value.slice.injEq] at h1
    obtain ⟨rfl, _, rfl⟩ := h1
    have hml : cap ≤ 9223372036854775807 := by unfold maxLen at hcm; omega
    have hfl : flat.length = n * es := how.1
    have hmul : (i + 1) * es + (n - (i + 1)) * es = n * es := by rw [← Nat.add_mul]; congr 1; omega
    have hm1 : (i + 1) * es = i * es + es := by rw [Nat.add_mul]; omega
    have hm2 : (n - 1) * es = i * es + (n - (i + 1)) * es := by rw [← Nat.add_mul]; congr 1; omega
    have hncm : n * es ≤ cap * es := Nat.mul_le_mul_right _ hnc
    have hcl : cur.toList.length = cap * es := by simpa using hcs
    obtain ⟨B, hB⟩ : ∃ B, B = flat.drop ((i + 1) * es) := ⟨_, rfl⟩
    have hBl : B.length = (n - (i + 1)) * es := by rw [hB, List.length_drop]; omega
    have h1B : ∀ u ∈ B, u.oneCell' = true := fun u hu => h1f u (by rw [hB] at hu; exact List.mem_of_mem_drop hu)
    have hBc : ∀ (j : Nat) (u : Value), B[j]? = some u → cur.toList[(i + 1) * es + j]? = some u := by
      intro j u hu
      have hlt := lt_of_get hu
      rw [hB, List.getElem?_drop, ← htk, List.getElem?_take] at hu
      split at hu
      · exact hu
      · simp at hu
    have hAt : cur.toList.take (i * es) = flat.take (i * es) := by
      rw [← htk, List.take_take]
      congr 1
      have := Nat.mul_le_mul_right es (Nat.le_of_lt hin)
      omega
    have hg' : w.drew.heap[g]? = some (.cells cur e (0, 0)) := hg
    obtain ⟨A, hA, hAc⟩ : ∃ A : Addr, (if cap = i + 1 then some (⟨g, 0, none⟩ : Addr) else some ⟨g, (i + 1) * es, none⟩) = some A ∧ ∀ (j : Nat) (u : Value), B[j]? = some u → w.drew.cell? (A.add j) = some u := by
      by_cases hc : cap = i + 1
      · refine ⟨⟨g, 0, none⟩, by rw [if_pos hc], fun j u hu => ?_⟩
        have h0 : B = [] := List.eq_nil_of_length_eq_zero (by rw [hBl, show n - (i + 1) = 0 by omega, Nat.zero_mul])
        rw [h0] at hu
        simp at hu
      · exact ⟨⟨g, (i + 1) * es, none⟩, by rw [if_neg hc], row_cell hg' hBc⟩
    have hap := fun ty => run_append_room (P := P) w.drew tS ty e ti E.u hi' g i cap cur hg' A (n - (i + 1)) (cap - (i + 1)) B (by rw [hBl, E.hs]) hAc h1B (by omega) (by rw [hBl, hcs, E.hs]; omega)
    rw [show i + (n - (i + 1)) = n - 1 by omega, E.hs] at hap
    obtain ⟨R, hR⟩ : ∃ R, (cur.toList.take (i * es) ++ B ++ cur.toList.drop (i * es + B.length)).toArray = R := ⟨_, rfl⟩
    rw [hR] at hap
    have hAl : (flat.take (i * es)).length = i * es := by
      have := Nat.mul_le_mul_right es (Nat.le_of_lt hin)
      rw [List.length_take]; omega
    obtain ⟨S, hS⟩ : ∃ S, cur.toList.drop (i * es + B.length) = S := ⟨_, rfl⟩
    have hSl : S.length = cap * es - (i * es + B.length) := by rw [← hS, List.length_drop, hcl]
    have hRl : R.toList = flat.take (i * es) ++ (B ++ S) := by rw [← hR, hAt, hS]; simp
    have hRs : R.size = cap * es := by
      have : R.toList.length = cap * es := by rw [hRl]; simp only [List.length_append, hAl, hSl]; omega
      simpa using this
    have hw1 := setRow_heap w.drew g cur R e (0, 0) hg'
    have hzc : (Builtin.zeroCells z.cells (n - (n - 1))).toList.length = es := by
      have := size_zeroCells z.cells (n - (n - 1))
      rw [E.zs, show n - (n - 1) = 1 by omega] at this
      rw [show n - (n - 1) = 1 by omega]
      simpa using this
    have hzo : ∀ u ∈ (Builtin.zeroCells z.cells (n - (n - 1))).toList, u.oneCell' = true := by
      intro u hu
      rw [show n - (n - 1) = 1 by omega] at hu
      refine E.zo u ?_
      obtain ⟨a, ha, rfl⟩ : ∃ a, a < z.cells.size ∧ z.cells[a % z.cells.size]! = u := by simpa [Builtin.zeroCells] using hu
      have hlt : a % z.cells.size < z.cells.size := Nat.mod_lt _ (by omega)
      rw [getElem!_pos z.cells _ hlt]
      simp
    obtain ⟨ZZ, hZZ⟩ : ∃ ZZ, (Builtin.zeroCells z.cells (n - (n - 1))).toList = ZZ := ⟨_, rfl⟩
    rw [hZZ] at hzc hzo
    have hst := run_storeCells_at P g ((n - 1) * es) e ZZ 0 R (w.drew.setRow g R) hw1 (by rw [hzc, hRs]; omega) hzo
    simp only [Nat.add_zero] at hst
    obtain ⟨k1, hk1⟩ : ∃ k1, n - (n - 1) = k1 + 1 := ⟨0, by omega⟩
    have hclr : ∀ ty, (Builtin.clear_ #[tS] ty #[.slice (some ⟨g, (n - 1) * es, none⟩) (n - (n - 1)) (cap - (n - 1))]).run P (w.drew.setRow g R) = .ok (.tuple #[]) _ := fun ty => by
      rw [hk1] at hZZ ⊢
      simp only [Builtin.clear_]
      simp only [List.getElem?_toArray, List.getElem?_cons_zero, Sem.run_bind, run_underlying E.u, zeroValue, typeInfo, hi', E.hz]
      simp [zeroValue, typeInfo, hi', E.hz, hZZ, hst]
      rfl
    refine ⟨_, _, hd g n cap i (i + 1) (n - 1) A _ _ w rfl rfl hin hnc hml hA hap hclr, ⟨?_, .inr ⟨g, cap, _, rfl, Nat.zero_le _, setRow_heap _ _ _ _ _ _ hw1, by omega, hcm, ?_, ?_⟩⟩, ⟨rfl, rfl, rfl, by simp, ?_⟩, .inl rfl⟩
    · rw [← hB]; simp only [List.length_append, hAl, hBl]; omega
    · have : R.toList.length = cap * es := by simpa using hRs
      simp only [List.size_toArray, List.length_append, List.length_take, List.length_drop, hzc]
      omega
    · have e1 : R.toList.take ((n - 1) * es) = flat.take (i * es) ++ B := by
        rw [hRl, ← List.append_assoc, List.take_left']
        simp only [List.length_append, hAl, hBl]; omega
      simp only [e1, List.append_assoc]
      rw [← List.append_assoc, List.take_left', hB]
      simp only [List.length_append, hAl, hBl]; omega
    · intro k hk hne'
      have hkg : k ≠ g := by rintro rfl; exact hne' rfl
      rw [setRow_other _ _ _ _ hkg, setRow_other _ _ _ _ hkg]
      rfl

/-! ### as contracts -/
theorem ones_of {Φ : Nat → Prop} {w : World} {fs : List FV} {vs : List Value} (h : All2 (FR Φ w) fs vs) : ∀ u ∈ vs, u.oneCell' = true := by
  intro u hu
  obtain ⟨j, hj⟩ := List.getElem?_of_mem hu
  obtain ⟨c, _, hr⟩ := h.get' hj
  exact hr.oneCell
theorem row_own {w : World} {m : Nat} {ρ0 : Nat → Value} {Φ0 : Nat → Prop} {H : Nat → Option EO} {X : Cx} (r : Rel w m ρ0 Φ0 H X) {o : Nat} {e : TypeId} {es : Nat} {xs : List (List FV)} (hH : H o = some (.row e es xs)) {v : Value} (hv : VR X (.row o xs.length) v) :
    ∃ base cap flat, v = .slice base xs.length cap ∧ X.ρ o = v ∧ 0 < es ∧ (∀ x ∈ xs, x.length = es) ∧ X.w.ownsRow 0 e es (.slice base xs.length cap) xs.length flat ∧ All2 (FR X.Φ X.w) xs.flatten flat := by
  obtain ⟨hu, a, n0, cap, hρ, q1, q2, q3⟩ := hv
  obtain ⟨h0, hl, flat, how, hall⟩ := (r.obj o _ hH).2
  rw [hρ] at how
  have hn : n0 = xs.length := by
    rcases how.2 with ⟨hn, hz⟩ | ⟨g, cap', cur, he, _⟩
    · simp only [Value.slice.injEq] at hn; omega
    · simp only [Value.slice.injEq] at he; omega
  subst hn
  exact ⟨a, cap, flat, q3, by rw [hρ, q3], h0, hl, how, hall⟩

theorem ins_ecalls {f fov : FuncId} {tS tI e tB : TypeId} {es bytes : Nat} {ti : TypeInfo} {z : Value} (E : ElemT P tS e es bytes ti z) (hI : P.underlying tI = some (.int .i64))
    (hs : InsShift P f fov tS es) (he : InsEnd P f tS) (hgr : InsGrow P f tS tI es)
    (hfov : ∀ w a b, (callFunc fov #[a, b]).run P w = ((Extern.SlicesOverlaps.overlaps #[tS, tS] #[tB] #[a, b]).run P w).andThen fun v w' => .ok (.value v) w')
    (xs : List (List FV)) (x : List FV) (i : Nat) (hin : i ≤ xs.length) (hn : xs.length + 1 ≤ 1000000000) (hby : (xs.length + 1) * bytes ≤ 140737488355328) :
    ECalls P f [.v (.c (.row 0 xs.length)), .lit (.int .i64 i), .v (.c (.row 1 1))] [.row e es xs, .row e es [x]] fun y H' =>
      H' = [none, some (.row e es [x]), some (.row e es (xs.take i ++ x :: xs.drop i))] ∧ y = .v (.c (.row 2 (xs.length + 1))) := by
  intro ρ Φ w vals r ha
  obtain ⟨v0, vs0, rfl, h0, ha⟩ := ha.cons_left
  obtain ⟨v1, vs1, rfl, h1, ha⟩ := ha.cons_left
  obtain ⟨v2, vs2, rfl, h2, ha⟩ := ha.cons_left
  obtain rfl := ha.nil_left
  have h1' : FR Φ w (.lit (.int .i64 i)) v1 := h1
  obtain rfl : v1 = .int .i64 i := by cases h1'; rfl
  obtain ⟨base, cap, flat, rfl, hρ0, hp, hl, how, hall⟩ := row_own r (o := 0) (e := e) (es := es) (xs := xs) rfl h0
  obtain ⟨base2, mc, vs, rfl, hρ1, _, hl2, how2, hall2⟩ := row_own r (o := 1) (e := e) (es := es) (xs := [x]) rfl h2
  have hxl : x.length = es := hl2 x (by simp)
  rcases how2.2 with ⟨_, hbad⟩ | ⟨vb, mc', cur1, hvb, _, hvr, hmc, _, _, htk⟩
  · simp at hbad
  simp only [List.length_cons, List.length_nil, Nat.zero_add, Value.slice.injEq, true_and] at hvb hmc htk
  obtain ⟨rfl, rfl⟩ := hvb
  have hvl : vs.length = es := by have := how2.1; simpa using this
  have hne : ∀ a, base = some a → a.block ≠ vb := by
    rintro a rfl hb'
    have hb0 : hb (ρ 0) = some vb := by have : ρ 0 = _ := hρ0; rw [this]; simp [hb, hb']
    have hb1 : hb (ρ 1) = some vb := by have : ρ 1 = _ := hρ1; rw [this]; rfl
    exact absurd (r.inj 0 1 _ _ vb rfl rfl hb0 hb1) (by decide)
  obtain ⟨v', W', hcalls, hown, hg, hat⟩ := ins_run E hI hs he hgr hfov w base xs.length cap i vb mc flat vs cur1 how hvr (by simpa using htk) hvl hmc (ones_of hall) (by have := ones_of hall2; exact this) hne hin hn hby
  refine hcalls.mono ?_
  rintro e' w' ⟨rfl, rfl⟩
  have hob : (Value.slice base xs.length cap).ownBlock = hb (Value.slice base xs.length cap) := own_hb _ rfl
  obtain ⟨a', n', hv'⟩ : ∃ a' c', v' = .slice a' (xs.length + 1) c' ∧ xs.length + 1 ≤ c' := by
    rcases hown.2 with ⟨h1, h2⟩ | ⟨g, cap', cur, h1, _, _, h2, _⟩
    · omega
    · exact ⟨_, cap', h1, h2⟩
  have hob' := own_hb v' hv'.1
  have nbo : ∀ b, Φ b → some b ≠ (Value.slice base xs.length cap).ownBlock := by
    intro b hb' e'
    refine r.dis 0 _ b rfl ?_ hb'
    have : ρ 0 = _ := hρ0
    show hb (ρ 0) = some b
    rw [this, ← hob, e']
  have hl0 : Later ⟨fun o => o < 2, ρ, Φ, w⟩ { U := fun o => o < 2 ∨ o = 2, ρ := upd ρ 2 v', Φ := Φ, w := w' } :=
    ⟨fun _ h => .inl h, fun o hu => upd_ne _ _ _ (by have : o < 2 := hu; omega), fun _ h => h, fun b hb' => hg.block b (r.fro b hb') (nbo b hb')⟩
  have hfl : (xs.take i ++ x :: xs.drop i).flatten = xs.flatten.take (i * es) ++ x ++ xs.flatten.drop (i * es) := by
    rw [List.flatten_append, List.flatten_cons, flatten_take hl, flatten_drop hl, List.append_assoc]
  have hlen : (xs.take i ++ x :: xs.drop i).length = xs.length + 1 := by simp; omega
  have hx2 : All2 (FR Φ w) x vs := by have := hall2; simpa using this
  obtain ⟨r', l'⟩ := r.grow (some 0) (Value.slice base xs.length cap).ownBlock (.inr ⟨0, _, rfl, rfl, by have : ρ 0 = _ := hρ0; show hb (ρ 0) = _; rw [this, hob]⟩) hg (id := 2) (by show ¬ (2 < 2); omega) (Nat.le_refl _) v'
    (by rw [← hob']; rcases hat with h | h; exact .inr (.inl h); exact .inr (.inr h)) (.row e es (xs.take i ++ x :: xs.drop i))
    ⟨hp, by
      intro y hy
      rcases List.mem_append.1 hy with h | h
      · exact hl y (List.mem_of_mem_take h)
      · rcases List.mem_cons.1 h with rfl | h
        · exact hxl
        · exact hl y (List.mem_of_mem_drop h), _, by rw [hlen]; exact hown, by
      rw [hfl]
      exact (((hall.take _).append hx2).append (hall.drop _)).mono fun _ _ => hl0.fr⟩
  have hU : (fun o => o < 2 ∨ o = 2) = fun o => o < 3 := funext fun o => propext (by omega)
  have hH : upd (dropO (ofL [EO.row e es xs, .row e es [x]]) (some 0)) 2 (some (.row e es (xs.take i ++ x :: xs.drop i))) = ofO [none, some (.row e es [x]), some (.row e es (xs.take i ++ x :: xs.drop i))] := by
    funext o
    match o with
    | 0 => rfl
    | 1 => rfl
    | 2 => rfl
    | o + 3 => simp [upd, dropO, ofL, ofO]
  refine ⟨_, _, v', upd ρ 2 v', Φ, rfl, ⟨rfl, rfl⟩, by simp, ?_, ?_⟩
  · exact ⟨by show 2 < _; simp, a', xs.length + 1, n', by simp [upd_same, hv'.1], Nat.le_refl _, hv'.2, hv'.1⟩
  · have r2 : Rel w 2 ρ Φ _ { U := fun o => o < 2 ∨ o = 2, ρ := upd ρ 2 v', Φ := Φ, w := w' } := r'
    rw [hU] at r2
    have r3 := hH ▸ r2
    exact r3

theorem del_ecalls {f : FuncId} {tS e : TypeId} {es bytes : Nat} {ti : TypeInfo} {z : Value} (E : ElemT P tS e es bytes ti z) (hd : DelOne P f tS es)
    (xs : List (List FV)) (i : Nat) (hin : i < xs.length) :
    ECalls P f [.v (.c (.row 0 xs.length)), .lit (.int .i64 i), .lit (.int .i64 ((i : Int) + 1))] [.row e es xs] fun y H' =>
      H' = [none, some (.row e es (xs.take i ++ xs.drop (i + 1)))] ∧ y = .v (.c (.row 1 (xs.length - 1))) := by
  intro ρ Φ w vals r ha
  obtain ⟨v0, vs0, rfl, h0, ha⟩ := ha.cons_left
  obtain ⟨v1, vs1, rfl, h1, ha⟩ := ha.cons_left
  obtain ⟨v2, vs2, rfl, h2, ha⟩ := ha.cons_left
  obtain rfl := ha.nil_left
  have h1' : FR Φ w (.lit (.int .i64 i)) v1 := h1
  obtain rfl : v1 = .int .i64 i := by cases h1'; rfl
  have h2' : FR Φ w (.lit (.int .i64 ((i : Int) + 1))) v2 := h2
  obtain rfl : v2 = .int .i64 ((i : Int) + 1) := by cases h2'; rfl
  obtain ⟨base, cap, flat, rfl, hρ0, hp, hl, how, hall⟩ := row_own r (o := 0) (e := e) (es := es) (xs := xs) rfl h0
  obtain ⟨v', W', hcalls, hown, hg, hat⟩ := del_run E hd w base xs.length cap i flat how (ones_of hall) hin
  refine hcalls.mono ?_
  rintro e' w' ⟨rfl, rfl⟩
  have hob : (Value.slice base xs.length cap).ownBlock = hb (Value.slice base xs.length cap) := own_hb _ rfl
  obtain ⟨a', n', hv'⟩ : ∃ a' c', v' = .slice a' (xs.length - 1) c' ∧ xs.length - 1 ≤ c' := by
    rcases hown.2 with ⟨h1, h2⟩ | ⟨g, cap', cur, h1, _, _, h2, _⟩
    · exact ⟨none, 0, by rw [h1, h2], by omega⟩
    · exact ⟨_, cap', h1, h2⟩
  have hob' := own_hb v' hv'.1
  have nbo : ∀ b, Φ b → some b ≠ (Value.slice base xs.length cap).ownBlock := by
    intro b hb' e'
    refine r.dis 0 _ b rfl ?_ hb'
    have : ρ 0 = _ := hρ0
    show hb (ρ 0) = some b
    rw [this, ← hob, e']
  have hl0 : Later ⟨fun o => o < 1, ρ, Φ, w⟩ { U := fun o => o < 1 ∨ o = 1, ρ := upd ρ 1 v', Φ := Φ, w := w' } :=
    ⟨fun _ h => .inl h, fun o hu => upd_ne _ _ _ (by have : o < 1 := hu; omega), fun _ h => h, fun b hb' => hg.block b (r.fro b hb') (nbo b hb')⟩
  have hfl : (xs.take i ++ xs.drop (i + 1)).flatten = xs.flatten.take (i * es) ++ xs.flatten.drop ((i + 1) * es) := by
    rw [List.flatten_append, flatten_take hl, flatten_drop hl]
  have hlen : (xs.take i ++ xs.drop (i + 1)).length = xs.length - 1 := by simp; omega
  obtain ⟨r', l'⟩ := r.grow (some 0) (Value.slice base xs.length cap).ownBlock (.inr ⟨0, _, rfl, rfl, by have : ρ 0 = _ := hρ0; show hb (ρ 0) = _; rw [this, hob]⟩) hg (id := 1) (by show ¬ (1 < 1); omega) (Nat.le_refl _) v'
    (by rw [← hob']; rcases hat with h | h; exact .inr (.inl h); exact .inr (.inr h)) (.row e es (xs.take i ++ xs.drop (i + 1)))
    ⟨hp, by
      intro y hy
      rcases List.mem_append.1 hy with h | h
      · exact hl y (List.mem_of_mem_take h)
      · exact hl y (List.mem_of_mem_drop h), _, by rw [hlen]; exact hown, by
      rw [hfl]
      exact ((hall.take _).append (hall.drop _)).mono fun _ _ => hl0.fr⟩
  have hU : (fun o => o < 1 ∨ o = 1) = fun o => o < 2 := funext fun o => propext (by omega)
  have hH : upd (dropO (ofL [EO.row e es xs]) (some 0)) 1 (some (.row e es (xs.take i ++ xs.drop (i + 1)))) = ofO [none, some (.row e es (xs.take i ++ xs.drop (i + 1)))] := by
    funext o
    match o with
    | 0 => rfl
    | 1 => rfl
    | o + 2 => simp [upd, dropO, ofL, ofO]
  refine ⟨_, _, v', upd ρ 1 v', Φ, rfl, ⟨rfl, rfl⟩, by simp, ?_, ?_⟩
  · exact ⟨by show 1 < _; simp, a', xs.length - 1, n', by simp [upd_same, hv'.1], Nat.le_refl _, hv'.2, hv'.1⟩
  · have r2 : Rel w 1 ρ Φ _ { U := fun o => o < 1 ∨ o = 1, ρ := upd ρ 1 v', Φ := Φ, w := w' } := r'
    rw [hU] at r2
    have r3 := hH ▸ r2
    exact r3

end Go.EW

set_option linter.unusedVariables false
set_option linter.unusedSimpArgs false
namespace Go.Proofs.YtpohjnhlhfbnaaaDoor
open Go.RowKit Go.Lib Go.EW
namespace InsP

theorem elem : ∃ ti z, ElemT Tryd.prog 29 61 36 64 ti z := elemT_of (by kernel_rfl) (by kernel_rfl) (by kernel_rfl) (by kernel_rfl) (by decide)
theorem fov (w : World) (a b : Value) : (callFunc 96 #[a, b]).run Tryd.prog w = ((Extern.SlicesOverlaps.overlaps #[29, 29] #[4] #[a, b]).run Tryd.prog w).andThen fun v w' => .ok (.value v) w' := by
  rw [run_callFunc_extern Tryd.func96 (by kernel_rfl) (by kernel_rfl) (by kernel_rfl) (e := Extern.SlicesOverlaps.overlaps #[29, 29] #[4]) (by kernel_rfl)]

set_option maxHeartbeats 4000000 in
set_option maxRecDepth 100000 in
theorem shift : InsShift Tryd.prog 64 96 29 36 := by
  intro g n c i vb mc W1 W2 w hi hroom hc63 hov hc1 hc2
  have hz2 : ¬ ((i : Int) = (n : Int)) := by omega
  have hw1 : IntKind.i64.wrap ((i : Int) + 1) = (i : Int) + 1 := by rw [IntKind.wrap_i64]; omega
  have hw2 : IntKind.i64.wrap ((n : Int) + 1) = (n : Int) + 1 := by rw [IntKind.wrap_i64]; omega
  have hb1 : (0 : Int) ≤ (i : Int) + 1 := by omega
  have hin : i ≤ n := by omega
  have htn : ((i : Int) + 1).toNat = i + 1 := by omega
  have hb2 : ¬ (c = i + 1) := by omega
  have hb3 : (i : Int) ≤ (n : Int) + 1 := by omega
  have hb4 : ¬ (c = i) := by omega
  go_enter Tryd.func64, Tryd.ntmps64
  go_wp2_with (simp only [hov])
  go_region_law (refine step_copy_runI rfl _ _ 29 29 rfl _ _ (by simp [Act.eval, Act.put]) (by simp [Act.eval, Act.put]) (hc1 _) ?_)
  go_wp2_with (at_builtin; refine wpList_copy_runI _ rfl _ _ 29 29 rfl _ _ rfl rfl (hc2 _) ?_)
  go_ret
  exact ⟨rfl, rfl⟩

set_option maxHeartbeats 4000000 in
set_option maxRecDepth 100000 in
theorem atEnd : InsEnd Tryd.prog 64 29 := by
  intro base n c vb m mc v' w W1 hnc hm hap
  have hz1 : ¬ ((m : Int) = 0) := by omega
  go_enter Tryd.func64, Tryd.ntmps64
  cases base with
  | none =>
    go_wp2_with (at_builtin; refine Lib.wpList_append_run _ rfl _ _ _ _ rfl _ _ rfl rfl _ _ hap ?_)
    go_ret
    exact ⟨rfl, rfl⟩
  | some a =>
    obtain ⟨ab, ao, asp⟩ := a
    go_wp2_with (at_builtin; refine Lib.wpList_append_run _ rfl _ _ _ _ rfl _ _ rfl rfl _ _ hap ?_)
    all_goals (go_ret; exact ⟨rfl, rfl⟩)

set_option maxHeartbeats 4000000 in
set_option maxRecDepth 100000 in
theorem grow : InsGrow Tryd.prog 64 29 3 36 := by
  intro g n c i vb mc g2 C W1 W2 W3 w hi hnc hroom hc63 hC hC63 hap hc1 hc2
  have hz2 : ¬ ((i : Int) = (n : Int)) := by omega
  have hz3 : (c : Int) < (n : Int) + 1 := by omega
  have hw1 : IntKind.i64.wrap ((i : Int) + 1) = (i : Int) + 1 := by rw [IntKind.wrap_i64]; omega
  have hw2 : IntKind.i64.wrap ((n : Int) + 1) = (n : Int) + 1 := by rw [IntKind.wrap_i64]; omega
  have hw3 : IntKind.i64.wrap ((n : Int) + 1 - (i : Int)) = (n : Int) + 1 - (i : Int) := by rw [IntKind.wrap_i64]; omega
  have hb1 : (0 : Int) ≤ (i : Int) + 1 := by omega
  have hin : i ≤ n := by omega
  have htn : ((i : Int) + 1).toNat = i + 1 := by omega
  have hb2 : ¬ (C = i + 1) := by omega
  have hb3 : (i : Int) ≤ (n : Int) := by omega
  have hb4 : ¬ (C = i) := by omega
  have hb5 : ¬ (c = i) := by omega
  have hb6 : (i : Int) ≤ (n : Int) + 1 := by omega
  go_enter Tryd.func64, Tryd.ntmps64
  go_wp2_with (first
    | (at_builtin; refine Lib.wpList_append_run _ rfl _ _ _ _ rfl _ _ rfl rfl _ _ (hap _) ?_)
    | (at_builtin; refine wpList_copy_runI _ rfl _ _ 29 29 rfl _ _ rfl rfl (hc1 _) ?_))
  go_region_law (refine step_copy_runI rfl _ _ 29 29 rfl _ _ (by simp [Act.eval, Act.put]) (by simp [Act.eval, Act.put]) (hc2 _) ?_)
  go_wp2
  go_ret
  exact ⟨rfl, rfl⟩

/-- slices.Insert of one element. -/
theorem ins_ok (xs : List (List FV)) (x : List FV) (i : Nat) (hin : i ≤ xs.length) (hn : xs.length + 1 ≤ 10000000) :
    ECalls Tryd.prog 64 [.v (.c (.row 0 xs.length)), .lit (.int .i64 i), .v (.c (.row 1 1))] [.row 61 36 xs, .row 61 36 [x]] fun y H' =>
      H' = [none, some (.row 61 36 [x]), some (.row 61 36 (xs.take i ++ x :: xs.drop i))] ∧ y = .v (.c (.row 2 (xs.length + 1))) := by
  obtain ⟨ti, z, E⟩ := elem
  exact ins_ecalls E (by kernel_rfl) shift atEnd grow fov xs x i hin (by omega) (by omega)

set_option maxHeartbeats 4000000 in
set_option maxRecDepth 100000 in
theorem del1 : DelOne Tryd.prog 98 29 36 := by
  intro g n c i j k A W1 W2 w hj hk hi hnc hc63 hA hap hcl
  have hz2 : ¬ ((i : Int) = (j : Int)) := by omega
  have hb1 : (i : Int) ≤ (j : Int) := by omega
  have hb2 : (j : Int) ≤ (n : Int) := by omega
  have hin : i ≤ n := by omega
  have hic : i ≤ c := by omega
  have hjc : j ≤ c := by omega
  have hb3 : (k : Int) ≤ (n : Int) := by omega
  have hb4 : ¬ (c = k) := by omega
  have hb5 : (n : Int) ≤ (c : Int) := by omega
  clear hj hk
  go_enter Tryd.func98, Tryd.ntmps98
  go_wp2_with fail
  go_region_law (refine step_append_runI rfl _ _ 29 29 rfl _ _ (by simp [Act.eval, Act.put]) (by simp [Act.eval, Act.put, hA]) (hap _) ?_)
  go_wp2
  go_ret
  exact ⟨rfl, rfl⟩

/-- slices.Delete of one element. -/
theorem del_ok (xs : List (List FV)) (i : Nat) (hin : i < xs.length) :
    ECalls Tryd.prog 98 [.v (.c (.row 0 xs.length)), .lit (.int .i64 i), .lit (.int .i64 ((i : Int) + 1))] [.row 61 36 xs] fun y H' =>
      H' = [none, some (.row 61 36 (xs.take i ++ xs.drop (i + 1)))] ∧ y = .v (.c (.row 1 (xs.length - 1))) := by
  obtain ⟨ti, z, E⟩ := elem
  exact del_ecalls E del1 xs i hin

end InsP
end Go.Proofs.YtpohjnhlhfbnaaaDoor
