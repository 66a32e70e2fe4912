import Derived.Test.YtejjhgdnmknejaaState2
namespace Go.Proofs.Ytejjhgdnmknejaa
open Go Go.EW
set_option linter.unusedSimpArgs false
set_option linter.unusedVariables false

@[simp] def l_Total_1 (_ : Unit) : List EOp := [⟨0, (some 1), none, (.q (.box 37 (.t 0))), []⟩, ⟨1, (some 2), none, (.q (.mov (.k (.int .i64 0)))), []⟩]
@[simp] def b_Total_2 (_ : Unit) : EB := reg0 (hid l_Total_1) 2
@[simp] def l_Total_3 (_ : Unit) : List EOp := [⟨0, (some 8), none, (.q (.lda 5 (.t 1))), []⟩, ⟨1, (some 9), none, (.call 16 [(.t 8)]), []⟩, ⟨2, (some 10), none, (.q (.un .not (.t 9))), []⟩]
@[simp] def b_Total_4 (_ : Unit) : EB := reg0 (hid l_Total_3) 3
@[simp] def l_Total_5 (_ : Unit) : List EOp := [⟨0, (some 2), none, (.q (.mov (.k (.int .i64 0)))), []⟩]
@[simp] def b_Total_6 (_ : Unit) : EB := reg0 (hid l_Total_5) 1
@[simp] def b_Total_7 (_ : Unit) : EB := .seq (hid b_Total_6) .ret
@[simp] def b_Total_8 (_ : Unit) : EB := .cond (.t 10) (hid b_Total_7) .skip
@[simp] def b_Total_9 (_ : Unit) : EB := .seq (hid b_Total_4) (hid b_Total_8)
@[simp] def l_Total_11 (_ : Unit) : List EOp := [⟨6, (some 17), none, (.q (.bin .add (.t 13) (.t 16))), []⟩, ⟨7, (some 3), none, (.q (.mov (.t 17))), []⟩]
@[simp] def l_Total_10 (_ : Unit) : List EOp := ⟨0, (some 11), none, (.q (.fad 1 (.t 1))), []⟩ :: ⟨1, (some 12), none, (.q (.iad 2 1 (.t 11) (.k (.int .i64 0)))), []⟩ :: ⟨2, (some 13), none, (.q (.ldc (.t 12))), []⟩ :: ⟨3, (some 14), none, (.q (.fad 1 (.t 1))), []⟩ :: ⟨4, (some 15), none, (.q (.iad 2 1 (.t 14) (.k (.int .i64 1)))), []⟩ :: ⟨5, (some 16), none, (.q (.ldc (.t 15))), []⟩ :: hid l_Total_11
@[simp] def b_Total_12 (_ : Unit) : EB := reg0 (hid l_Total_10) 8
@[simp] def l_Total_13 (_ : Unit) : List EOp := [⟨0, (some 18), none, (.q (.fad 3 (.t 1))), []⟩, ⟨1, (some 19), none, (.q (.ldc (.t 18))), []⟩, ⟨2, (some 20), none, (.q (.len (.t 19))), []⟩, ⟨3, (some 21), none, (.q (.mov (.k (.int .i64 0)))), []⟩]
@[simp] def b_Total_14 (_ : Unit) : EB := reg0 (hid l_Total_13) 4
@[simp] def l_Total_15 (_ : Unit) : List EOp := [⟨0, (some 22), none, (.q (.bin .lss (.t 21) (.t 20))), []⟩]
@[simp] def b_Total_16 (_ : Unit) : EB := reg0 (hid l_Total_15) 1
@[simp] def b_Total_17 (_ : Unit) : EB := .cond (.t 22) .skip (.exit 0)
@[simp] def l_Total_18 (_ : Unit) : List EOp := [⟨0, (some 23), none, (.q (.isl 36 (.t 19) (.t 21))), []⟩, ⟨1, (some 24), none, (.q (.lda 36 (.t 23))), []⟩, ⟨2, (some 5), none, (.q (.alloc 63 (([(.int .i64 0), (.int .i64 0), (.int .i64 0), (.int .i64 0)] : List Value) ++ zU8))), []⟩, ⟨3, none, none, (.sto 36 (.t 5) (.t 24)), []⟩]
@[simp] def b_Total_19 (_ : Unit) : EB := reg0 (hid l_Total_18) 4
@[simp] def l_Total_20 (_ : Unit) : List EOp := [⟨0, (some 25), none, (.q (.mov (.t 3))), []⟩, ⟨1, (some 26), none, (.q (.fad 2 (.t 5))), []⟩, ⟨2, (some 27), none, (.q (.ldc (.t 26))), []⟩, ⟨3, (some 28), none, (.q (.bin .add (.t 25) (.t 27))), []⟩, ⟨4, (some 3), none, (.q (.mov (.t 28))), []⟩]
@[simp] def b_Total_21 (_ : Unit) : EB := reg0 (hid l_Total_20) 5
@[simp] def b_Total_22 (_ : Unit) : EB := .seq (hid b_Total_19) (hid b_Total_21)
@[simp] def b_Total_23 (_ : Unit) : EB := .block 1 (hid b_Total_22)
@[simp] def l_Total_24 (_ : Unit) : List EOp := [⟨0, (some 29), none, (.q (.bin .add (.t 21) (.k (.int .i64 1)))), []⟩, ⟨1, (some 21), none, (.q (.mov (.t 29))), []⟩]
@[simp] def b_Total_25 (_ : Unit) : EB := reg0 (hid l_Total_24) 2
@[simp] def b_Total_26 (_ : Unit) : EB := .seq (hid b_Total_23) (hid b_Total_25)
@[simp] def b_Total_27 (_ : Unit) : EB := .seq (hid b_Total_17) (hid b_Total_26)
@[simp] def b_Total_28 (_ : Unit) : EB := .seq (hid b_Total_16) (hid b_Total_27)
@[simp] def b_Total_29 (_ : Unit) : EB := .loop (hid b_Total_28)
@[simp] def b_Total_30 (_ : Unit) : EB := .block 0 (hid b_Total_29)
@[simp] def b_Total_31 (_ : Unit) : EB := .seq (hid b_Total_14) (hid b_Total_30)
@[simp] def l_Total_32 (_ : Unit) : List EOp := [⟨0, (some 30), none, (.q (.fad 4 (.t 1))), []⟩, ⟨1, (some 31), none, (.q (.ldc (.t 30))), []⟩, ⟨2, (some 32), none, (.q (.len (.t 31))), []⟩, ⟨3, (some 33), none, (.q (.mov (.k (.int .i64 0)))), []⟩]
@[simp] def b_Total_33 (_ : Unit) : EB := reg0 (hid l_Total_32) 4
@[simp] def l_Total_34 (_ : Unit) : List EOp := [⟨0, (some 34), none, (.q (.bin .lss (.t 33) (.t 32))), []⟩]
@[simp] def b_Total_35 (_ : Unit) : EB := reg0 (hid l_Total_34) 1
@[simp] def b_Total_36 (_ : Unit) : EB := .cond (.t 34) .skip (.exit 2)
@[simp] def l_Total_37 (_ : Unit) : List EOp := [⟨0, (some 35), none, (.q (.isl 3 (.t 31) (.t 33))), []⟩, ⟨1, (some 36), none, (.q (.lda 3 (.t 35))), []⟩, ⟨2, (some 7), none, (.q (.alloc 57 [(.int .i64 0), (.int .i64 0), (.slice none 0 0)])), []⟩, ⟨3, none, none, (.fz (.sto 3 (.t 7) (.t 36))), []⟩]
@[simp] def b_Total_38 (_ : Unit) : EB := reg0 (hid l_Total_37) 4
@[simp] def l_Total_39 (_ : Unit) : List EOp := [⟨0, (some 37), none, (.q (.mov (.t 3))), []⟩, ⟨1, (some 38), none, (.q (.fad 1 (.t 7))), []⟩, ⟨2, (some 39), none, (.q (.ldc (.t 38))), []⟩, ⟨3, (some 40), none, (.q (.bin .add (.t 37) (.t 39))), []⟩, ⟨4, (some 3), none, (.q (.mov (.t 40))), []⟩]
@[simp] def b_Total_40 (_ : Unit) : EB := reg0 (hid l_Total_39) 5
@[simp] def b_Total_41 (_ : Unit) : EB := .seq (hid b_Total_38) (hid b_Total_40)
@[simp] def b_Total_42 (_ : Unit) : EB := .block 3 (hid b_Total_41)
@[simp] def l_Total_43 (_ : Unit) : List EOp := [⟨0, (some 41), none, (.q (.bin .add (.t 33) (.k (.int .i64 1)))), []⟩, ⟨1, (some 33), none, (.q (.mov (.t 41))), []⟩]
@[simp] def b_Total_44 (_ : Unit) : EB := reg0 (hid l_Total_43) 2
@[simp] def b_Total_45 (_ : Unit) : EB := .seq (hid b_Total_42) (hid b_Total_44)
@[simp] def b_Total_46 (_ : Unit) : EB := .seq (hid b_Total_36) (hid b_Total_45)
@[simp] def b_Total_47 (_ : Unit) : EB := .seq (hid b_Total_35) (hid b_Total_46)
@[simp] def b_Total_48 (_ : Unit) : EB := .loop (hid b_Total_47)
@[simp] def b_Total_49 (_ : Unit) : EB := .block 2 (hid b_Total_48)
@[simp] def b_Total_50 (_ : Unit) : EB := .seq (hid b_Total_33) (hid b_Total_49)
@[simp] def l_Total_51 (_ : Unit) : List EOp := [⟨0, (some 42), none, (.q (.mov (.t 3))), []⟩, ⟨1, (some 2), none, (.q (.mov (.t 42))), []⟩]
@[simp] def b_Total_52 (_ : Unit) : EB := reg0 (hid l_Total_51) 2
@[simp] def b_Total_53 (_ : Unit) : EB := .seq (hid b_Total_52) .ret
@[simp] def b_Total_54 (_ : Unit) : EB := .seq (hid b_Total_50) (hid b_Total_53)
@[simp] def b_Total_55 (_ : Unit) : EB := .seq (hid b_Total_31) (hid b_Total_54)
@[simp] def b_Total_56 (_ : Unit) : EB := .seq (hid b_Total_12) (hid b_Total_55)
@[simp] def b_Total_57 (_ : Unit) : EB := .seq (hid b_Total_9) (hid b_Total_56)
@[simp] def b_Total_58 (_ : Unit) : EB := .seq (hid b_Total_2) (hid b_Total_57)
def c_Total : EB × List QOp × Nat := ((hid b_Total_58), [(.mov (.t 2))], 43)
theorem k_Total : cfun Try.prog 8 = some c_Total := by kernel_rfl

@[simp] def l_cloneP_1 (_ : Unit) : List EOp := [⟨0, (some 2), none, (.q (.mov (.k (.slice none 0 0)))), []⟩]
@[simp] def b_cloneP_2 (_ : Unit) : EB := reg0 (hid l_cloneP_1) 1
@[simp] def l_cloneP_3 (_ : Unit) : List EOp := [⟨0, (some 3), none, (.q (.mov (.t 0))), []⟩, ⟨1, (some 4), none, (.nild false (.t 3)), []⟩]
@[simp] def b_cloneP_4 (_ : Unit) : EB := reg0 (hid l_cloneP_3) 2
@[simp] def l_cloneP_5 (_ : Unit) : List EOp := [⟨0, (some 2), none, (.q (.mov (.k (.slice none 0 0)))), []⟩]
@[simp] def b_cloneP_6 (_ : Unit) : EB := reg0 (hid l_cloneP_5) 1
@[simp] def b_cloneP_7 (_ : Unit) : EB := .seq (hid b_cloneP_6) .ret
@[simp] def b_cloneP_8 (_ : Unit) : EB := .cond (.t 4) (hid b_cloneP_7) .skip
@[simp] def b_cloneP_9 (_ : Unit) : EB := .seq (hid b_cloneP_4) (hid b_cloneP_8)
@[simp] def l_cloneP_10 (_ : Unit) : List EOp := [⟨0, (some 5), none, (.q (.bsr 63 36 (([(.int .i64 0), (.int .i64 0), (.int .i64 0), (.int .i64 0)] : List Value) ++ zU8) 0 [])), []⟩, ⟨1, (some 6), none, (.q (.mov (.t 0))), []⟩, ⟨2, (some 7), none, (.app 63 36 64 (.t 5) (.t 6)), []⟩, ⟨3, (some 2), none, (.q (.mov (.t 7))), []⟩]
@[simp] def b_cloneP_11 (_ : Unit) : EB := reg0 (hid l_cloneP_10) 4
@[simp] def b_cloneP_12 (_ : Unit) : EB := .seq (hid b_cloneP_11) .ret
@[simp] def b_cloneP_13 (_ : Unit) : EB := .seq (hid b_cloneP_9) (hid b_cloneP_12)
@[simp] def b_cloneP_14 (_ : Unit) : EB := .seq (hid b_cloneP_2) (hid b_cloneP_13)
def c_cloneP : EB × List QOp × Nat := ((hid b_cloneP_14), [(.mov (.t 2))], 8)
theorem k_cloneP : cfun Try.prog 35 = some c_cloneP := by kernel_rfl

@[simp] def l_cloneH_1 (_ : Unit) : List EOp := [⟨0, (some 2), none, (.q (.mov (.k (.slice none 0 0)))), []⟩]
@[simp] def b_cloneH_2 (_ : Unit) : EB := reg0 (hid l_cloneH_1) 1
@[simp] def l_cloneH_3 (_ : Unit) : List EOp := [⟨0, (some 3), none, (.q (.mov (.t 0))), []⟩, ⟨1, (some 4), none, (.nild false (.t 3)), []⟩]
@[simp] def b_cloneH_4 (_ : Unit) : EB := reg0 (hid l_cloneH_3) 2
@[simp] def l_cloneH_5 (_ : Unit) : List EOp := [⟨0, (some 2), none, (.q (.mov (.k (.slice none 0 0)))), []⟩]
@[simp] def b_cloneH_6 (_ : Unit) : EB := reg0 (hid l_cloneH_5) 1
@[simp] def b_cloneH_7 (_ : Unit) : EB := .seq (hid b_cloneH_6) .ret
@[simp] def b_cloneH_8 (_ : Unit) : EB := .cond (.t 4) (hid b_cloneH_7) .skip
@[simp] def b_cloneH_9 (_ : Unit) : EB := .seq (hid b_cloneH_4) (hid b_cloneH_8)
@[simp] def l_cloneH_10 (_ : Unit) : List EOp := [⟨0, (some 5), none, (.q (.bsr 57 3 [(.int .i64 0), (.int .i64 0), (.slice none 0 0)] 0 [])), []⟩, ⟨1, (some 6), none, (.q (.mov (.t 0))), []⟩, ⟨2, (some 7), none, (.app 57 3 40 (.t 5) (.t 6)), []⟩, ⟨3, (some 2), none, (.q (.mov (.t 7))), []⟩]
@[simp] def b_cloneH_11 (_ : Unit) : EB := reg0 (hid l_cloneH_10) 4
@[simp] def b_cloneH_12 (_ : Unit) : EB := .seq (hid b_cloneH_11) .ret
@[simp] def b_cloneH_13 (_ : Unit) : EB := .seq (hid b_cloneH_9) (hid b_cloneH_12)
@[simp] def b_cloneH_14 (_ : Unit) : EB := .seq (hid b_cloneH_2) (hid b_cloneH_13)
def c_cloneH : EB × List QOp × Nat := ((hid b_cloneH_14), [(.mov (.t 2))], 8)
theorem k_cloneH : cfun Try.prog 36 = some c_cloneH := by kernel_rfl

@[simp] def l_cloneI_1 (_ : Unit) : List EOp := [⟨0, (some 2), none, (.q (.mov (.k (.slice none 0 0)))), []⟩]
@[simp] def b_cloneI_2 (_ : Unit) : EB := reg0 (hid l_cloneI_1) 1
@[simp] def l_cloneI_3 (_ : Unit) : List EOp := [⟨0, (some 3), none, (.q (.mov (.t 0))), []⟩, ⟨1, (some 4), none, (.nild false (.t 3)), []⟩]
@[simp] def b_cloneI_4 (_ : Unit) : EB := reg0 (hid l_cloneI_3) 2
@[simp] def l_cloneI_5 (_ : Unit) : List EOp := [⟨0, (some 2), none, (.q (.mov (.k (.slice none 0 0)))), []⟩]
@[simp] def b_cloneI_6 (_ : Unit) : EB := reg0 (hid l_cloneI_5) 1
@[simp] def b_cloneI_7 (_ : Unit) : EB := .seq (hid b_cloneI_6) .ret
@[simp] def b_cloneI_8 (_ : Unit) : EB := .cond (.t 4) (hid b_cloneI_7) .skip
@[simp] def b_cloneI_9 (_ : Unit) : EB := .seq (hid b_cloneI_4) (hid b_cloneI_8)
@[simp] def l_cloneI_10 (_ : Unit) : List EOp := [⟨0, (some 5), none, (.q (.bsr 3 1 [(.int .i64 0)] 0 [])), []⟩, ⟨1, (some 6), none, (.q (.mov (.t 0))), []⟩, ⟨2, (some 7), none, (.app 3 1 8 (.t 5) (.t 6)), []⟩, ⟨3, (some 2), none, (.q (.mov (.t 7))), []⟩]
@[simp] def b_cloneI_11 (_ : Unit) : EB := reg0 (hid l_cloneI_10) 4
@[simp] def b_cloneI_12 (_ : Unit) : EB := .seq (hid b_cloneI_11) .ret
@[simp] def b_cloneI_13 (_ : Unit) : EB := .seq (hid b_cloneI_9) (hid b_cloneI_12)
@[simp] def b_cloneI_14 (_ : Unit) : EB := .seq (hid b_cloneI_2) (hid b_cloneI_13)
def c_cloneI : EB × List QOp × Nat := ((hid b_cloneI_14), [(.mov (.t 2))], 8)
theorem k_cloneI : cfun Try.prog 26 = some c_cloneI := by kernel_rfl


theorem mayS_t {s : Sta} (h : mayS s = true) : (0 ≤ s.num ∧ s.num ≤ 1099511627776 ∧ 0 ≤ s.h0 ∧ s.h0 ≤ 1125899906842624 ∧ 0 ≤ s.h1 ∧ s.h1 ≤ 1125899906842624 ∧ s.pays.length ≤ 8 ∧ s.holds.length + s.pays.length ≤ 8) ∧ payL none s.pays = true ∧ holL none s.holds = true ∧ total s ≤ 1125899906842624 := by
  simp only [mayS, Bool.and_eq_true, decide_eq_true_eq] at h
  exact ⟨h.1.1.1, h.1.1.2, h.1.2, h.2⟩
theorem payL_am : ∀ {o : Option Int} {l : List Pay}, payL o l = true → ∀ p ∈ l, 10 ≤ p.am ∧ p.am ≤ 1125899906842624
  | _, [], _, p, hp => by simp at hp
  | o, q :: r, h, p, hp => by
    simp only [payL, Bool.and_eq_true] at h
    rcases List.mem_cons.1 hp with rfl | hp
    · exact mayP_am h.1.1
    · exact payL_am h.2 p hp
theorem holL_am : ∀ {o : Option Int} {l : List Hol}, holL o l = true → ∀ p ∈ l, 10 ≤ p.am ∧ p.am ≤ 1125899906842624
  | _, [], _, p, hp => by simp at hp
  | o, q :: r, h, p, hp => by
    simp only [holL, Bool.and_eq_true] at h
    rcases List.mem_cons.1 hp with rfl | hp
    · exact mayH_am h.1.1
    · exact holL_am h.2 p hp
def totS (s : Sta) : Int := if mayS s = true then total s else 0

set_option maxHeartbeats 1000000 in
theorem Total_ok (s : Sta) (hs : s.ok) : ECalls Try.prog 8 [SV s] [] fun y H' => H' = [] ∧ y = I .i64 (totS s) := by
  obtain ⟨ok1, ok2, ok3, ok4, ok5, ok6, ok7⟩ := id hs
  refine ecalls k_Total ?_
  simp [c_Total, SV, staC]
  refine call0 (Smay_ok s hs) (by simp [SV, staC]) ?_
  rintro y H' ⟨rfl, rfl⟩
  cases hm : mayS s
  · have ht : totS s = 0 := by simp [totS, hm]
    rw [ht]
    simp [EV.lit, I]
    exact fin [] (by decide) rfl rfl rfl ⟨rfl, rfl⟩
  have ht : totS s = total s := by simp [totS, hm]
  obtain ⟨hr, hp, hh, htot⟩ := mayS_t hm
  rw [ht]
  have w1 : IntKind.i64.wrap (s.h0 + s.h1) = s.h0 + s.h1 := wrap_i64 (by omega) (by omega)
  simp [EV.lit, w1]
  refine eloop (α := Nat × Int) (fun a => a.1 ≤ s.pays.length ∧ a.2 = s.h0 + s.h1 + sumP (s.pays.take a.1) ∧ 0 ≤ a.2 ∧ a.2 ≤ 2251799813685248 + (a.1 : Int) * 1125899906842624) (fun a => s.pays.length - a.1)
    (fun a => [.any, Ptr 0, .any, I .i64 a.2, .any, .any, .any, .any, .any, .any, .any, .any, .any, .any, .any, .any, .any, .any, .any, PL s.pays, I .i64 s.pays.length, I .i64 a.1, .any, .any, .any, .any, .any, .any, .any, .any, .any, .any, .any, .any, .any, .any, .any, .any, .any, .any, .any, .any, .any]) (fun a => [some (.box 37 (staC s))]) (0, s.h0 + s.h1) [0]
    ⟨by simp, by simp [sumP], by simp; omega, by simp; omega⟩ (by simp [Ptr, I, PL]) (by simp [staC]) (by simp) (by simp) (by simp) ?_
  rintro ⟨i, n⟩ ⟨hi1, hi3, hi4, hi5⟩
  simp [Ptr, I, PL, staC] at hi1 hi3 hi4 hi5 ⊢
  refine alt (fun hlt => ?_) (fun hlt => ?_)
  · obtain ⟨p, hc⟩ : ∃ p, s.pays[i]? = some p := ⟨s.pays[i], by simp [hlt]⟩
    have hl32 := (ok4 p (List.mem_of_getElem? hc)).2.2.2.2
    have ht : p.lock.take 32 = p.lock := List.take_of_length_le (by omega)
    have hcb := payv_get hc
    have ham := payL_am hp p (List.mem_of_getElem? hc)
    have w2 : IntKind.i64.wrap ((i : Int) + 1) = ((i + 1 : Nat) : Int) := wrap_i64 (by omega) (by omega)
    have w4 : IntKind.i64.wrap (n + p.am) = n + p.am := wrap_i64 (by omega) (by omega)
    simp [hcb, payF, hl32, ht, w2, w4, -Int.natCast_add]
    exact round (i + 1, n + p.am) [0] ⟨by omega, by rw [take_s hc, sumP_snoc]; omega, by simp; omega, by simp; omega⟩ (by simp; omega) (by simp) (by simp) (by simp) (by simp) (by simp)
  have hil : i = s.pays.length := by omega
  subst hil
  rw [List.take_length] at hi3
  simp
  refine eloop (α := Nat × Int) (fun a => a.1 ≤ s.holds.length ∧ a.2 = s.h0 + s.h1 + sumP s.pays + sumH (s.holds.take a.1) ∧ 0 ≤ a.2 ∧ a.2 ≤ 22517998136852480 + (a.1 : Int) * 1125899906842624) (fun a => s.holds.length - a.1)
    (fun a => [.any, .any, .any, I .i64 a.2, .any, .any, .any, .any, .any, .any, .any, .any, .any, .any, .any, .any, .any, .any, .any, .any, .any, .any, .any, .any, .any, .any, .any, .any, .any, .any, .any, HL s.holds, I .i64 s.holds.length, I .i64 a.1, .any, .any, .any, .any, .any, .any, .any, .any, .any]) (fun a => []) (0, n) []
    ⟨by simp, by simp [sumH]; omega, hi4, by simp; omega⟩ (by simp [Ptr, I, HL]) (by simp [staC]) (by simp) (by simp) (by simp) ?_
  clear hi1 hi3 hi4 hi5 hlt
  clear n
  rintro ⟨i, n⟩ ⟨hi1, hi3, hi4, hi5⟩
  simp [Ptr, I, HL, staC] at hi1 hi3 hi4 hi5 ⊢
  refine alt (fun hlt => ?_) (fun hlt => ?_)
  · obtain ⟨p, hc⟩ : ∃ p, s.holds[i]? = some p := ⟨s.holds[i], by simp [hlt]⟩
    have hcb := holv_get hc
    have ham := holL_am hh p (List.mem_of_getElem? hc)
    have w2 : IntKind.i64.wrap ((i : Int) + 1) = ((i + 1 : Nat) : Int) := wrap_i64 (by omega) (by omega)
    have w4 : IntKind.i64.wrap (n + p.am) = n + p.am := wrap_i64 (by omega) (by omega)
    simp [hcb, holF, w2, w4, -Int.natCast_add]
    exact round (i + 1, n + p.am) [] ⟨by omega, by rw [take_s hc, sumH_snoc]; omega, by simp; omega, by simp; omega⟩ (by simp; omega) (by simp) (by simp) (by simp) (by simp) (by simp)
  have hil : i = s.holds.length := by omega
  subst hil
  rw [List.take_length] at hi3
  simp
  exact fin [] (by decide) rfl rfl rfl ⟨rfl, by rw [hi3]; rfl⟩

theorem cloneP_ok (l : List Pay) (hl : l.length ≤ 100000000) : ECalls Try.prog 35 [PL l] [] fun y H' => H' = [some (.row 63 36 (payv l))] ∧ y = .v (.c (.row 0 l.length)) := by
  refine ecalls k_cloneP ?_
  simp [c_cloneP, PL]
  refine both (fun h => ?_) (fun _ => ?_)
  · simp
    refine finW _ (weak_nilR 2 63 36 rfl (by omega)) ?_
    have hn : l = [] := by cases l <;> simp_all
    subst hn
    exact fin [64] (by decide) rfl rfl rfl ⟨rfl, rfl⟩
  · simp
    exact ⟨by omega, fin [80] (by decide) rfl rfl rfl ⟨rfl, by simp⟩⟩

theorem cloneH_ok (l : List Hol) (hl : l.length ≤ 100000000) : ECalls Try.prog 36 [HL l] [] fun y H' => H' = [some (.row 57 3 (holv l))] ∧ y = .v (.c (.row 0 l.length)) := by
  refine ecalls k_cloneH ?_
  simp [c_cloneH, HL]
  refine both (fun h => ?_) (fun _ => ?_)
  · simp
    refine finW _ (weak_nilR 2 57 3 rfl (by omega)) ?_
    have hn : l = [] := by cases l <;> simp_all
    subst hn
    exact fin [64] (by decide) rfl rfl rfl ⟨rfl, rfl⟩
  · simp
    exact ⟨by omega, fin [80] (by decide) rfl rfl rfl ⟨rfl, by simp⟩⟩

theorem cloneI_ok (l : List Int) (hl : l.length ≤ 100000000) : ECalls Try.prog 26 [IL l] [] fun y H' => H' = [some (.row 3 1 (intv l))] ∧ y = .v (.c (.row 0 l.length)) := by
  refine ecalls k_cloneI ?_
  simp [c_cloneI, IL]
  refine both (fun h => ?_) (fun _ => ?_)
  · simp
    refine finW _ (weak_nilR 2 3 1 rfl (by omega)) ?_
    have hn : l = [] := by cases l <;> simp_all
    subst hn
    exact fin [64] (by decide) rfl rfl rfl ⟨rfl, rfl⟩
  · simp
    exact ⟨by omega, fin [80] (by decide) rfl rfl rfl ⟨rfl, by simp⟩⟩

end Go.Proofs.Ytejjhgdnmknejaa
