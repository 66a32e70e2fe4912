import Derived.Test.YtejjhgdnmknejaaVirF
namespace Go.Proofs.Ytejjhgdnmknejaa
open Go Go.EW
set_option linter.unusedSimpArgs false
set_option linter.unusedVariables false

@[simp] def l_EqI_1 (_ : Unit) : List EOp := [⟨0, (some 4), none, (.q (.mov (.k (.bool false)))), []⟩]
@[simp] def b_EqI_2 (_ : Unit) : EB := reg0 (hid l_EqI_1) 1
@[simp] def l_EqI_3 (_ : Unit) : List EOp := [⟨0, (some 6), none, (.q (.mov (.t 0))), []⟩, ⟨1, (some 7), none, (.q (.len (.t 6))), []⟩, ⟨2, (some 8), none, (.q (.mov (.t 1))), []⟩, ⟨3, (some 9), none, (.q (.len (.t 8))), []⟩, ⟨4, (some 10), none, (.q (.bin .neq (.t 7) (.t 9))), []⟩]
@[simp] def b_EqI_4 (_ : Unit) : EB := reg0 (hid l_EqI_3) 5
@[simp] def l_EqI_5 (_ : Unit) : List EOp := [⟨0, (some 4), none, (.q (.mov (.k (.bool false)))), []⟩]
@[simp] def b_EqI_6 (_ : Unit) : EB := reg0 (hid l_EqI_5) 1
@[simp] def b_EqI_7 (_ : Unit) : EB := .seq (hid b_EqI_6) .ret
@[simp] def b_EqI_8 (_ : Unit) : EB := .cond (.t 10) (hid b_EqI_7) .skip
@[simp] def b_EqI_9 (_ : Unit) : EB := .seq (hid b_EqI_4) (hid b_EqI_8)
@[simp] def l_EqI_10 (_ : Unit) : List EOp := [⟨0, (some 11), none, (.q (.mov (.t 0))), []⟩, ⟨1, (some 12), none, (.q (.len (.t 11))), []⟩, ⟨2, (some 13), none, (.q (.mov (.k (.int .i64 0)))), []⟩]
@[simp] def b_EqI_11 (_ : Unit) : EB := reg0 (hid l_EqI_10) 3
@[simp] def l_EqI_12 (_ : Unit) : List EOp := [⟨0, (some 14), none, (.q (.bin .lss (.t 13) (.t 12))), []⟩]
@[simp] def b_EqI_13 (_ : Unit) : EB := reg0 (hid l_EqI_12) 1
@[simp] def b_EqI_14 (_ : Unit) : EB := .cond (.t 14) .skip (.exit 0)
@[simp] def l_EqI_15 (_ : Unit) : List EOp := [⟨0, (some 15), none, (.q (.mov (.t 13))), []⟩, ⟨1, (some 5), none, (.q (.mov (.t 15))), []⟩]
@[simp] def b_EqI_16 (_ : Unit) : EB := reg0 (hid l_EqI_15) 2
@[simp] def l_EqI_18 (_ : Unit) : List EOp := [⟨6, (some 22), none, (.q (.isl 1 (.t 20) (.t 21))), []⟩, ⟨7, (some 23), none, (.q (.ldc (.t 22))), []⟩, ⟨8, (some 24), none, (.q (.bin .neq (.t 19) (.t 23))), []⟩]
@[simp] def l_EqI_17 (_ : Unit) : List EOp := ⟨0, (some 16), none, (.q (.mov (.t 0))), []⟩ :: ⟨1, (some 17), none, (.q (.mov (.t 5))), []⟩ :: ⟨2, (some 18), none, (.q (.isl 1 (.t 16) (.t 17))), []⟩ :: ⟨3, (some 19), none, (.q (.ldc (.t 18))), []⟩ :: ⟨4, (some 20), none, (.q (.mov (.t 1))), []⟩ :: ⟨5, (some 21), none, (.q (.mov (.t 5))), []⟩ :: hid l_EqI_18
@[simp] def b_EqI_19 (_ : Unit) : EB := reg0 (hid l_EqI_17) 9
@[simp] def l_EqI_20 (_ : Unit) : List EOp := [⟨0, (some 4), none, (.q (.mov (.k (.bool false)))), []⟩]
@[simp] def b_EqI_21 (_ : Unit) : EB := reg0 (hid l_EqI_20) 1
@[simp] def b_EqI_22 (_ : Unit) : EB := .seq (hid b_EqI_21) .ret
@[simp] def b_EqI_23 (_ : Unit) : EB := .cond (.t 24) (hid b_EqI_22) .skip
@[simp] def b_EqI_24 (_ : Unit) : EB := .seq (hid b_EqI_19) (hid b_EqI_23)
@[simp] def b_EqI_25 (_ : Unit) : EB := .seq (hid b_EqI_16) (hid b_EqI_24)
@[simp] def b_EqI_26 (_ : Unit) : EB := .block 1 (hid b_EqI_25)
@[simp] def l_EqI_27 (_ : Unit) : List EOp := [⟨0, (some 25), none, (.q (.bin .add (.t 13) (.k (.int .i64 1)))), []⟩, ⟨1, (some 13), none, (.q (.mov (.t 25))), []⟩]
@[simp] def b_EqI_28 (_ : Unit) : EB := reg0 (hid l_EqI_27) 2
@[simp] def b_EqI_29 (_ : Unit) : EB := .seq (hid b_EqI_26) (hid b_EqI_28)
@[simp] def b_EqI_30 (_ : Unit) : EB := .seq (hid b_EqI_14) (hid b_EqI_29)
@[simp] def b_EqI_31 (_ : Unit) : EB := .seq (hid b_EqI_13) (hid b_EqI_30)
@[simp] def b_EqI_32 (_ : Unit) : EB := .loop (hid b_EqI_31)
@[simp] def b_EqI_33 (_ : Unit) : EB := .block 0 (hid b_EqI_32)
@[simp] def b_EqI_34 (_ : Unit) : EB := .seq (hid b_EqI_11) (hid b_EqI_33)
@[simp] def l_EqI_35 (_ : Unit) : List EOp := [⟨0, (some 4), none, (.q (.mov (.k (.bool true)))), []⟩]
@[simp] def b_EqI_36 (_ : Unit) : EB := reg0 (hid l_EqI_35) 1
@[simp] def b_EqI_37 (_ : Unit) : EB := .seq (hid b_EqI_36) .ret
@[simp] def b_EqI_38 (_ : Unit) : EB := .seq (hid b_EqI_34) (hid b_EqI_37)
@[simp] def b_EqI_39 (_ : Unit) : EB := .seq (hid b_EqI_9) (hid b_EqI_38)
@[simp] def b_EqI_40 (_ : Unit) : EB := .seq (hid b_EqI_2) (hid b_EqI_39)
def c_EqI : EB × List QOp × Nat := ((hid b_EqI_40), [(.mov (.t 4))], 26)
theorem k_EqI : cfun Try.prog 31 = some c_EqI := by kernel_rfl

@[simp] def l_Vh1_1 (_ : Unit) : List EOp := [⟨0, (some 3), none, (.q (.box 57 (.t 0))), []⟩, ⟨1, (some 4), none, (.q (.mov (.k (.bool false)))), []⟩]
@[simp] def b_Vh1_2 (_ : Unit) : EB := reg0 (hid l_Vh1_1) 2
@[simp] def l_Vh1_6 (_ : Unit) : List EOp := [⟨18, (some 4), none, (.q (.mov (.t 22))), []⟩]
@[simp] def l_Vh1_5 (_ : Unit) : List EOp := ⟨12, (some 17), (some (16, true)), (.q (.fad 2 (.t 3))), []⟩ :: ⟨13, (some 18), (some (16, true)), (.q (.ldc (.t 17))), []⟩ :: ⟨14, (some 19), (some (16, true)), (.q (.fad 2 (.t 2))), []⟩ :: ⟨15, (some 20), (some (16, true)), (.q (.ldc (.t 19))), []⟩ :: ⟨16, (some 21), (some (16, true)), (.call 31 [(.t 18), (.t 20)]), []⟩ :: ⟨17, (some 22), none, (.q (.pick (.t 16) (.t 21) (.k (.bool false)))), []⟩ :: hid l_Vh1_6
@[simp] def l_Vh1_4 (_ : Unit) : List EOp := ⟨6, (some 11), (some (9, true)), (.q (.ldc (.t 10))), []⟩ :: ⟨7, (some 12), (some (9, true)), (.q (.fad 1 (.t 2))), []⟩ :: ⟨8, (some 13), (some (9, true)), (.q (.ldc (.t 12))), []⟩ :: ⟨9, (some 14), (some (9, true)), (.q (.bin .eql (.t 11) (.t 13))), []⟩ :: ⟨10, (some 15), none, (.q (.pick (.t 9) (.t 14) (.k (.bool false)))), []⟩ :: ⟨11, (some 16), none, (.q (.mov (.t 15))), []⟩ :: hid l_Vh1_5
@[simp] def l_Vh1_3 (_ : Unit) : List EOp := ⟨0, (some 5), none, (.q (.fad 0 (.t 3))), []⟩ :: ⟨1, (some 6), none, (.q (.ldc (.t 5))), []⟩ :: ⟨2, (some 7), none, (.q (.ldc (.t 1))), []⟩ :: ⟨3, (some 8), none, (.q (.bin .eql (.t 6) (.t 7))), []⟩ :: ⟨4, (some 9), none, (.q (.mov (.t 8))), []⟩ :: ⟨5, (some 10), (some (9, true)), (.q (.fad 1 (.t 3))), []⟩ :: hid l_Vh1_4
@[simp] def b_Vh1_7 (_ : Unit) : EB := reg0 (hid l_Vh1_3) 19
@[simp] def b_Vh1_8 (_ : Unit) : EB := .seq (hid b_Vh1_7) .ret
@[simp] def b_Vh1_9 (_ : Unit) : EB := .seq (hid b_Vh1_2) (hid b_Vh1_8)
def c_Vh1 : EB × List QOp × Nat := ((hid b_Vh1_9), [(.mov (.t 4))], 23)
theorem k_Vh1 : cfun Try.prog 30 = some c_Vh1 := by kernel_rfl


theorem EqI_ok (a b : List Int) (ha : a.length ≤ 100000000) : ECalls Try.prog 31 [IL a, IL b] [] fun y H' => H' = [] ∧ y = .lit (.bool (decide (a = b))) := by
  refine ecalls k_EqI ?_
  simp [c_EqI, IL, I]
  by_cases hl : a.length = b.length
  rotate_left
  · have hl' : ¬ (a.length : Int) = (b.length : Int) := by omega
    rw [decide_eq_false (fun h => hl (by rw [h]))]
    simp [hl, hl']
    exact fin [] (by decide) rfl rfl rfl ⟨rfl, rfl⟩
  obtain ⟨D, hD⟩ : ∃ D, decide (a = b) = D := ⟨_, rfl⟩
  rw [hD]
  simp [hl]
  refine eloop (α := Nat) (fun i => i ≤ a.length ∧ ∀ k, k < i → (a[k]?).getD 0 = (b[k]?).getD 0) (fun i => a.length - i) (fun i => [IL a, IL b, .any, .any, .any, .any, .any, .any, .any, .any, .any, .any, I .i64 b.length, I .i64 i, .any, .any, .any, .any, .any, .any, .any, .any, .any, .any, .any, .any]) (fun _ => []) 0 []
    ⟨Nat.zero_le _, fun k h => by omega⟩ (by simp [I, IL]) (by simp) (by simp) (by simp) (by simp) ?_
  rintro i ⟨hi, hno⟩
  by_cases hlt : i < a.length
  · have hlb : i < b.length := by omega
    have hli : (i : Int) < (b.length : Int) := by omega
    have w4 : IntKind.i64.wrap ((i : Int) + 1) = ((i + 1 : Nat) : Int) := wrap_i64 (by omega) (by omega)
    obtain ⟨A, hA⟩ : ∃ A, (a[i]?).getD 0 = A := ⟨_, rfl⟩
    obtain ⟨B, hB⟩ : ∃ B, (b[i]?).getD 0 = B := ⟨_, rfl⟩
    have ga : ∀ h2, (intv a)[i]'h2 = [.lit (.int .i64 A)] := fun h2 => by rw [intv_at hlt, hA]
    have gb : ∀ h2, (intv b)[i]'h2 = [.lit (.int .i64 B)] := fun h2 => by rw [intv_at hlb, hB]
    by_cases he : A = B
    · simp [I, IL, hlt, hlb, hli, ga, gb, he, w4, -Int.natCast_add]
      refine round (i + 1) [] ⟨by omega, ?_⟩ (by omega) (by simp [I, IL]) (by simp) (by simp) (by simp) (by simp)
      intro k hk
      rcases Nat.lt_or_ge k i with h1 | h1
      · exact hno k h1
      · obtain rfl : k = i := by omega
        rw [hA, hB, he]
    · have hDf : D = false := by
        rw [← hD]
        refine decide_eq_false fun h => he ?_
        rw [← hA, ← hB, h]
      subst hDf
      simp [I, IL, hlt, hlb, hli, ga, gb, he]
      exact fin [] (by decide) rfl rfl rfl ⟨rfl, rfl⟩
  · have hie : i = a.length := by omega
    subst hie
    have hDt : D = true := by
      rw [← hD]
      refine decide_eq_true (List.ext_getElem hl fun k h1 h2 => ?_)
      have := hno k h1
      simpa [h1, h2] using this
    subst hDt
    have hll : (a.length : Int) = (b.length : Int) := by omega
    simp [I, IL, hl]
    exact fin [] (by decide) rfl rfl rfl ⟨rfl, rfl⟩

def BXI (x : Int) : EO := .box 3 [.fz (.lit (.int .i64 x))]
def BHo (id' am : Int) : EO := .box 57 [.fz (.lit (.int .i64 id')), .fz (.lit (.int .i64 am)), .row 2 3]
def RKo (K : List Int) : EO := .row 3 1 (intv K)
def hitV (id' am : Int) (K : List Int) (h : Hol) : Bool := decide (h.id = id') && (decide (h.am = am) && decide (h.keys = K))

set_option maxHeartbeats 2000000 in
theorem Vh1_ok (h : Hol) (id' am : Int) (K : List Int) (hh : h.ok) (hK : K.length = 3) : ECalls Try.prog 30 [.v (.agg (holC h)), .v (.c (.ptr 0 0)), .v (.c (.ptr 1 0))] [BXI id', BHo id' am, RKo K] fun y H' => H' = [some (BXI id'), some (BHo id' am), some (RKo K)] ∧ y = .lit (.bool (hitV id' am K h)) := by
  obtain ⟨_, _, _, hkl⟩ := id hh
  have tK : List.take 3 (intv K) = intv K := List.take_of_length_le (by simp [hK])
  refine ecalls k_Vh1 ?_
  simp [c_Vh1, holC, BXI, BHo, RKo]
  unfold hitV
  by_cases c1 : h.id = id'
  rotate_left
  · simp [c1]
    exact fin [] (by decide) rfl rfl (by simp [objsOut, show List.range 3 = [0, 1, 2] from rfl]) ⟨rfl, rfl⟩
  by_cases c2 : h.am = am
  rotate_left
  · simp [c1, c2]
    exact fin [] (by decide) rfl rfl (by simp [objsOut, show List.range 3 = [0, 1, 2] from rfl]) ⟨rfl, rfl⟩
  simp [c1, c2]
  refine call0 (EqI_ok h.keys K hkl) (by simp [IL, tK]) ?_
  rintro y H' ⟨rfl, rfl⟩
  refine ⟨.inr ⟨rfl, by simp⟩, le_ok rfl, ?_⟩
  simp
  exact fin [] (by decide) rfl rfl (by simp [objsOut, show List.range 3 = [0, 1, 2] from rfl]) ⟨rfl, rfl⟩
theorem Vh1_body : bodyOK Try.prog 30 = true := by kernel_rfl

end Go.Proofs.Ytejjhgdnmknejaa
