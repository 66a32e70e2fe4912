import Derived.Test.YtpohjnhlhfbnaaaDoorAll11
import Derived.Test.YtpohjnhlhfbnaaaDoorAll12
namespace Go.Proofs.YtpohjnhlhfbnaaaDoor
open Go Go.EW
set_option linter.unusedSimpArgs false
set_option linter.unusedVariables false

@[simp] def l_SSum_1 (_ : Unit) : List EOp := [⟨0, (some 1), none, (.q (.box 32 (.t 0))), []⟩, ⟨1, (some 2), none, (.q (.alloc 52 zU8)), []⟩]
@[simp] def b_SSum_2 (_ : Unit) : EB := reg0 (hid l_SSum_1) 2
@[simp] def l_SSum_3 (_ : Unit) : List EOp := [⟨0, (some 3), none, (.q (.lda 5 (.t 1))), []⟩, ⟨1, (some 4), none, (.call 22 [(.t 3)]), []⟩, ⟨2, (some 5), none, (.call 66 [(.t 4)]), []⟩, ⟨3, none, none, (.sto 32 (.t 2) (.t 5)), []⟩]
@[simp] def b_SSum_4 (_ : Unit) : EB := reg0 (hid l_SSum_3) 4
@[simp] def b_SSum_5 (_ : Unit) : EB := .seq (hid b_SSum_4) .ret
@[simp] def b_SSum_6 (_ : Unit) : EB := .seq (hid b_SSum_2) (hid b_SSum_5)
def c_SSum : EB × List QOp × Nat := ((hid b_SSum_6), [(.lda 32 (.t 2))], 6)
theorem k_SSum : cfun Tryd.prog 30 = some c_SSum := by kernel_rfl

@[simp] def l_SCheck_1 (_ : Unit) : List EOp := [⟨0, (some 1), none, (.q (.box 32 (.t 0))), []⟩, ⟨1, (some 2), none, (.q (.mov (.k .nilIface))), []⟩]
@[simp] def b_SCheck_2 (_ : Unit) : EB := reg0 (hid l_SCheck_1) 2
@[simp] def l_SCheck_3 (_ : Unit) : List EOp := [⟨0, (some 3), none, (.q (.lda 5 (.t 1))), []⟩, ⟨1, (some 4), none, (.call 43 [(.t 3)]), []⟩, ⟨2, (some 5), none, (.q (.un .not (.t 4))), []⟩]
@[simp] def b_SCheck_4 (_ : Unit) : EB := reg0 (hid l_SCheck_3) 3
@[simp] def l_SCheck_5 (_ : Unit) : List EOp := [⟨0, (some 6), none, (.q (.mki 79 (.k (.int .i64 1)))), []⟩, ⟨1, (some 2), none, (.q (.mov (.t 6))), []⟩]
@[simp] def b_SCheck_6 (_ : Unit) : EB := reg0 (hid l_SCheck_5) 2
@[simp] def b_SCheck_7 (_ : Unit) : EB := .seq (hid b_SCheck_6) .ret
@[simp] def b_SCheck_8 (_ : Unit) : EB := .cond (.t 5) (hid b_SCheck_7) .skip
@[simp] def b_SCheck_9 (_ : Unit) : EB := .seq (hid b_SCheck_4) (hid b_SCheck_8)
@[simp] def l_SCheck_10 (_ : Unit) : List EOp := [⟨0, (some 2), none, (.q (.mov (.k .nilIface))), []⟩]
@[simp] def b_SCheck_11 (_ : Unit) : EB := reg0 (hid l_SCheck_10) 1
@[simp] def b_SCheck_12 (_ : Unit) : EB := .seq (hid b_SCheck_11) .ret
@[simp] def b_SCheck_13 (_ : Unit) : EB := .seq (hid b_SCheck_9) (hid b_SCheck_12)
@[simp] def b_SCheck_14 (_ : Unit) : EB := .seq (hid b_SCheck_2) (hid b_SCheck_13)
def c_SCheck : EB × List QOp × Nat := ((hid b_SCheck_14), [(.mov (.t 2))], 7)
theorem k_SCheck : cfun Tryd.prog 28 = some c_SCheck := by kernel_rfl

@[simp] def l_StateBack_1 (_ : Unit) : List EOp := [⟨0, (some 1), none, (.q (.box 26 (.t 0))), []⟩, ⟨1, (some 2), none, (.q (.mov (.k (.bool false)))), []⟩]
@[simp] def b_StateBack_2 (_ : Unit) : EB := reg0 (hid l_StateBack_1) 2
@[simp] def l_StateBack_3 (_ : Unit) : List EOp := [⟨0, (some 7), none, (.q (.lda 5 (.t 1))), []⟩, ⟨1, (some 8), none, (.call 10 [(.t 7)]), []⟩]
@[simp] def b_StateBack_4 (_ : Unit) : EB := reg0 (hid l_StateBack_3) 2
@[simp] def l_StateBack_5 (_ : Unit) : List EOp := [⟨0, (some 9), none, (.call 11 []), []⟩, ⟨1, (some 2), none, (.q (.mov (.t 9))), []⟩]
@[simp] def b_StateBack_6 (_ : Unit) : EB := reg0 (hid l_StateBack_5) 2
@[simp] def b_StateBack_7 (_ : Unit) : EB := .seq (hid b_StateBack_6) .ret
@[simp] def b_StateBack_8 (_ : Unit) : EB := .cond (.t 8) (hid b_StateBack_7) .skip
@[simp] def b_StateBack_9 (_ : Unit) : EB := .seq (hid b_StateBack_4) (hid b_StateBack_8)
@[simp] def l_StateBack_10 (_ : Unit) : List EOp := [⟨0, (some 10), none, (.q (.lda 5 (.t 1))), []⟩, ⟨1, (some 11), none, (.call 13 [(.t 10)]), []⟩, ⟨2, (some 3), none, (.q (.alloc 32 [(.int .i64 0), (.int .i64 0), (.int .i64 0), (.slice none 0 0), (.slice none 0 0)])), []⟩, ⟨3, none, none, (.fz (.sto 5 (.t 3) (.t 11))), []⟩]
@[simp] def b_StateBack_11 (_ : Unit) : EB := reg0 (hid l_StateBack_10) 4
@[simp] def l_StateBack_12 (_ : Unit) : List EOp := [⟨0, (some 12), none, (.q (.lda 5 (.t 3))), []⟩, ⟨1, (some 13), none, (.call 22 [(.t 12)]), []⟩, ⟨2, (some 4), none, (.q (.mov (.t 13))), []⟩]
@[simp] def b_StateBack_13 (_ : Unit) : EB := reg0 (hid l_StateBack_12) 3
@[simp] def l_StateBack_15 (_ : Unit) : List EOp := [⟨6, none, none, (.fz (.sto 5 (.t 5) (.t 17))), []⟩, ⟨7, (some 6), none, (.q (.mov (.t 18))), []⟩]
@[simp] def l_StateBack_14 (_ : Unit) : List EOp := ⟨0, (some 15), none, (.q (.mov (.t 4))), []⟩ :: ⟨1, (some 16), none, (.call 20 [(.t 15)]), []⟩ :: ⟨2, (some 14), none, (.q (.mov (.t 16))), []⟩ :: ⟨3, (some 17), none, (.q (.ext 0 (.t 14))), []⟩ :: ⟨4, (some 18), none, (.q (.ext 1 (.t 14))), []⟩ :: ⟨5, (some 5), none, (.q (.alloc 32 [(.int .i64 0), (.int .i64 0), (.int .i64 0), (.slice none 0 0), (.slice none 0 0)])), []⟩ :: hid l_StateBack_15
@[simp] def b_StateBack_16 (_ : Unit) : EB := reg0 (hid l_StateBack_14) 8
@[simp] def l_StateBack_17 (_ : Unit) : List EOp := [⟨0, (some 19), none, (.q (.lda 5 (.t 3))), []⟩, ⟨1, (some 20), none, (.call 28 [(.t 19)]), []⟩, ⟨2, (some 21), none, (.q (.eqi true (.t 20))), []⟩]
@[simp] def b_StateBack_18 (_ : Unit) : EB := reg0 (hid l_StateBack_17) 3
@[simp] def l_StateBack_23 (_ : Unit) : List EOp := [⟨24, (some 46), none, (.q (.mov (.t 45))), []⟩, ⟨25, (some 47), (some (46, true)), (.call 11 []), []⟩, ⟨26, (some 48), none, (.q (.pick (.t 46) (.t 47) (.k (.bool false)))), []⟩, ⟨27, (some 2), none, (.q (.mov (.t 48))), []⟩]
@[simp] def l_StateBack_22 (_ : Unit) : List EOp := ⟨18, (some 40), (some (25, true)), (.q (.fad 4 (.t 5))), []⟩ :: ⟨19, (some 41), (some (25, true)), (.q (.ldc (.t 40))), []⟩ :: ⟨20, (some 42), (some (25, true)), (.q (.len (.t 41))), []⟩ :: ⟨21, (some 43), (some (25, true)), (.q (.bin .add (.t 39) (.t 42))), []⟩ :: ⟨22, (some 44), (some (25, true)), (.q (.bin .eql (.t 43) (.k (.int .i64 0)))), []⟩ :: ⟨23, (some 45), none, (.q (.pick (.t 25) (.t 44) (.k (.bool false)))), []⟩ :: hid l_StateBack_23
@[simp] def l_StateBack_21 (_ : Unit) : List EOp := ⟨12, (some 34), (some (25, true)), (.q (.ldc (.t 33))), []⟩ :: ⟨13, (some 35), (some (25, true)), (.q (.bin .add (.t 31) (.t 34))), []⟩ :: ⟨14, (some 36), (some (25, true)), (.q (.fad 3 (.t 5))), []⟩ :: ⟨15, (some 37), (some (25, true)), (.q (.ldc (.t 36))), []⟩ :: ⟨16, (some 38), (some (25, true)), (.q (.len (.t 37))), []⟩ :: ⟨17, (some 39), (some (25, true)), (.q (.bin .add (.t 35) (.t 38))), []⟩ :: hid l_StateBack_22
@[simp] def l_StateBack_20 (_ : Unit) : List EOp := ⟨6, (some 28), (some (25, true)), (.q (.fad 1 (.t 5))), []⟩ :: ⟨7, (some 29), (some (25, true)), (.q (.iad 2 1 (.t 28) (.k (.int .i64 0)))), []⟩ :: ⟨8, (some 30), (some (25, true)), (.q (.ldc (.t 29))), []⟩ :: ⟨9, (some 31), (some (25, true)), (.q (.bin .add (.t 27) (.t 30))), []⟩ :: ⟨10, (some 32), (some (25, true)), (.q (.fad 1 (.t 5))), []⟩ :: ⟨11, (some 33), (some (25, true)), (.q (.iad 2 1 (.t 32) (.k (.int .i64 1)))), []⟩ :: hid l_StateBack_21
@[simp] def l_StateBack_19 (_ : Unit) : List EOp := ⟨0, (some 22), none, (.q (.mov (.t 6))), []⟩ :: ⟨1, (some 23), none, (.call 29 [(.t 22)]), []⟩ :: ⟨2, (some 24), none, (.q (.bin .eql (.t 23) (.k (.int .i64 3)))), []⟩ :: ⟨3, (some 25), none, (.q (.mov (.t 24))), []⟩ :: ⟨4, (some 26), (some (25, true)), (.q (.fad 0 (.t 5))), []⟩ :: ⟨5, (some 27), (some (25, true)), (.q (.ldc (.t 26))), []⟩ :: hid l_StateBack_20
@[simp] def b_StateBack_24 (_ : Unit) : EB := reg0 (hid l_StateBack_19) 28
@[simp] def b_StateBack_25 (_ : Unit) : EB := .seq (hid b_StateBack_24) .ret
@[simp] def b_StateBack_26 (_ : Unit) : EB := .cond (.t 21) (hid b_StateBack_25) .skip
@[simp] def b_StateBack_27 (_ : Unit) : EB := .seq (hid b_StateBack_18) (hid b_StateBack_26)
@[simp] def l_StateBack_31 (_ : Unit) : List EOp := [⟨18, (some 67), (some (66, true)), (.call 11 []), []⟩, ⟨19, (some 68), none, (.q (.pick (.t 66) (.t 67) (.k (.bool false)))), []⟩, ⟨20, (some 2), none, (.q (.mov (.t 68))), []⟩]
@[simp] def l_StateBack_30 (_ : Unit) : List EOp := ⟨13, (some 62), (some (59, true)), (.q (.lda 5 (.t 3))), []⟩ :: ⟨12, (some 61), (some (59, true)), (.call 30 [(.t 60)]), [13]⟩ :: ⟨14, (some 63), (some (59, true)), (.call 30 [(.t 62)]), []⟩ :: ⟨15, (some 64), (some (59, true)), (.q (.eqa false 32 .u8 (.t 61) (.t 63))), []⟩ :: ⟨16, (some 65), none, (.q (.pick (.t 59) (.t 64) (.k (.bool false)))), []⟩ :: ⟨17, (some 66), none, (.q (.mov (.t 65))), []⟩ :: hid l_StateBack_31
@[simp] def l_StateBack_29 (_ : Unit) : List EOp := ⟨4, (some 53), (some (51, true)), (.call 22 [(.t 52)]), [6, 7]⟩ :: ⟨5, (some 54), (some (51, true)), (.q (.b2s (.t 53))), []⟩ :: ⟨8, (some 57), (some (51, true)), (.q (.bin .eql (.t 54) (.t 56))), []⟩ :: ⟨9, (some 58), none, (.q (.pick (.t 51) (.t 57) (.k (.bool false)))), []⟩ :: ⟨10, (some 59), none, (.q (.mov (.t 58))), []⟩ :: ⟨11, (some 60), (some (59, true)), (.q (.lda 5 (.t 5))), []⟩ :: hid l_StateBack_30
@[simp] def l_StateBack_28 (_ : Unit) : List EOp := ⟨0, (some 49), none, (.q (.mov (.t 6))), []⟩ :: ⟨1, (some 50), none, (.q (.eqi false (.t 49))), []⟩ :: ⟨2, (some 51), none, (.q (.mov (.t 50))), []⟩ :: ⟨3, (some 52), (some (51, true)), (.q (.lda 5 (.t 5))), []⟩ :: ⟨6, (some 55), (some (51, true)), (.q (.mov (.t 4))), []⟩ :: ⟨7, (some 56), (some (51, true)), (.q (.b2s (.t 55))), []⟩ :: hid l_StateBack_29
@[simp] def b_StateBack_32 (_ : Unit) : EB := reg1 (hid l_StateBack_28) 21
@[simp] def b_StateBack_33 (_ : Unit) : EB := .seq (hid b_StateBack_32) .ret
@[simp] def b_StateBack_34 (_ : Unit) : EB := .seq (hid b_StateBack_27) (hid b_StateBack_33)
@[simp] def b_StateBack_35 (_ : Unit) : EB := .seq (hid b_StateBack_16) (hid b_StateBack_34)
@[simp] def b_StateBack_36 (_ : Unit) : EB := .seq (hid b_StateBack_13) (hid b_StateBack_35)
@[simp] def b_StateBack_37 (_ : Unit) : EB := .seq (hid b_StateBack_11) (hid b_StateBack_36)
@[simp] def b_StateBack_38 (_ : Unit) : EB := .seq (hid b_StateBack_9) (hid b_StateBack_37)
@[simp] def b_StateBack_39 (_ : Unit) : EB := .seq (hid b_StateBack_2) (hid b_StateBack_38)
def c_StateBack : EB × List QOp × Nat := ((hid b_StateBack_39), [(.mov (.t 2))], 69)
theorem k_StateBack : cfun Tryd.prog 7 = some c_StateBack := by kernel_rfl


theorem hcs_t (l : List UInt8) : List.take 32 (hc (sumS l)) = hc (sumS l) := hc_tk (by rw [sumS_len]; omega)
theorem encS_len {s : Sta} (hs : s.ok) (hm : s.small) : (encS s).length ≤ 100000000 := by
  obtain ⟨ok1, ok2, ok3, ok4, ok5, ok6, ok7⟩ := id hs
  obtain ⟨m1, m2, m3⟩ := hm
  have lh : (headB s).length ≤ 36 := usB_len [s.num, s.h0, s.h1, (s.pays.length : Int)]
  have lp : (pB s.pays).length ≤ 68000 := by
    have h1 := flat_len (f := payB) (k := 68) (l := s.pays) (fun p hp => payB_len (ok4 p hp).2.2.2.2)
    unfold pB; omega
  have lq := usB_len [(s.holds.length : Int)]
  simp only [List.length_cons, List.length_nil] at lq
  have lk : (hB s.holds).length ≤ 9100000 := by
    have h1 := flat_len (f := holB) (k := 9100) (l := s.holds) (fun p hp => holB_len (m3 p hp))
    unfold hB; omega
  have e : encS s = headB s ++ pB s.pays ++ usB [(s.holds.length : Int)] ++ hB s.holds := rfl
  rw [e]
  simp only [List.length_append]
  omega
theorem SSum_ok (s : Sta) (hs : s.ok) (hm : s.small) : ECalls Tryd.prog 30 [SV s] [] fun y H' => H' = [] ∧ y = .v (.agg (hc (sumS (encS s)))) := by
  have ht := hcs_t (encS s)
  refine ecalls k_SSum ?_
  simp [c_SSum, SV, staC]
  refine call0 (Encode_ok s hs hm) (by simp [Ptr, I, EV.lit, Bs, SV, staC, SE, RE]) ?_
  rintro y H' ⟨rfl, rfl⟩
  refine ⟨.inl (by simp [Ptr, I, EV.lit, Bs, SV, staC, SE, RE]), le_ok rfl, ?_⟩
  simp [Ptr, I, EV.lit, Bs, SV, staC, SE, RE]
  refine call0 (BSum_ok (encS s) (encS_len hs hm)) (by simp [Ptr, I, EV.lit, Bs, SV, staC, SE, RE]) ?_
  rintro y H' ⟨rfl, rfl⟩
  refine ⟨.inl (by simp [Ptr, I, EV.lit, Bs, SV, staC, SE, RE]), le_ok rfl, ?_⟩
  simp [Ptr, I, EV.lit, Bs, SV, staC, SE, RE]
  simp [ht, sumS_len]
  exact fin [] (by decide) rfl rfl rfl ⟨rfl, rfl⟩
theorem SCheck_ok (s : Sta) (hs : s.ok) : ECalls Tryd.prog 28 [SV s] [] fun y H' => H' = [] ∧ y = .lit (if mayS s then .nilIface else errV 1) := by
  refine ecalls k_SCheck ?_
  simp [c_SCheck, SV, staC]
  refine call0 (Smay_ok s hs) (by simp [Ptr, I, EV.lit, Bs, SV, staC, SE, RE]) ?_
  rintro y H' ⟨rfl, rfl⟩
  refine ⟨.inl (by simp [Ptr, I, EV.lit, Bs, SV, staC, SE, RE]), le_ok rfl, ?_⟩
  simp [Ptr, I, EV.lit, Bs, SV, staC, SE, RE]
  cases hm : mayS s
  · simp
    exact fin [] (by decide) rfl rfl rfl ⟨rfl, rfl⟩
  · simp
    exact fin [] (by decide) rfl rfl rfl ⟨rfl, rfl⟩

set_option maxHeartbeats 2000000 in
theorem StateBack_ok (s : Sta) (hs : s.ok) : ECalls Tryd.prog 7 [SV s] [] fun y H' => H' = [] ∧ y = .lit (.bool true) := by
  refine ecalls k_StateBack ?_
  simp [c_StateBack, SV, staC]
  refine call0 (longState_ok s hs) (by simp [Ptr, I, EV.lit, Bs, SV, staC, SE, RE]) ?_
  rintro y H' ⟨rfl, rfl⟩
  refine ⟨.inl (by simp [Ptr, I, EV.lit, Bs, SV, staC, SE, RE]), le_ok rfl, ?_⟩
  simp [Ptr, I, EV.lit, Bs, SV, staC, SE, RE]
  cases hl : longS s with
  | true =>
    simp
    refine call0 (sure_ok) (by simp [Ptr, I, EV.lit, Bs, SV, staC, SE, RE]) ?_
    rintro y H' ⟨rfl, rfl⟩
    refine ⟨.inl (by simp [Ptr, I, EV.lit, Bs, SV, staC, SE, RE]), le_ok rfl, ?_⟩
    simp [Ptr, I, EV.lit, Bs, SV, staC, SE, RE]
    exact fin [] (by decide) rfl rfl rfl ⟨rfl, rfl⟩
  | false =>
  obtain ⟨hm, _⟩ := longS_small hl
  have hel := encS_len hs hm
  simp
  refine call0 (giveState_ok s hs hm) (by simp [Ptr, I, EV.lit, Bs, SV, staC, SE, RE]) ?_
  rintro y H' ⟨rfl, rfl⟩
  refine ⟨.inl (by simp [Ptr, I, EV.lit, Bs, SV, staC, SE, RE]), le_ok rfl, ?_⟩
  simp [Ptr, I, EV.lit, Bs, SV, staC, SE, RE]
  refine call0 (Encode_ok s hs hm) (by simp [Ptr, I, EV.lit, Bs, SV, staC, SE, RE]) ?_
  rintro y H' ⟨rfl, rfl⟩
  refine ⟨.inl (by simp [Ptr, I, EV.lit, Bs, SV, staC, SE, RE]), le_ok rfl, ?_⟩
  simp [Ptr, I, EV.lit, Bs, SV, staC, SE, RE]
  refine call0 (Decode_ok (encS s) hel) (by simp [Ptr, I, EV.lit, Bs, SV, staC, SE, RE]) ?_
  rintro y H' ⟨rfl, rfl⟩
  refine ⟨.inl (by simp [Ptr, I, EV.lit, Bs, SV, staC, SE, RE]), le_ok rfl, ?_⟩
  simp [Ptr, I, EV.lit, Bs, SV, staC, SE, RE]
  refine call0 (SCheck_ok s hs) (by simp [Ptr, I, EV.lit, Bs, SV, staC, SE, RE]) ?_
  rintro y H' ⟨rfl, rfl⟩
  refine ⟨.inl (by simp [Ptr, I, EV.lit, Bs, SV, staC, SE, RE]), le_ok rfl, ?_⟩
  rw [decS_rt hs]
  cases hy : mayS s with
  | true =>
    simp [Ptr, I, EV.lit, Bs, SV, staC, SE, RE]
    refine call0 (Encode_ok s hs hm) (by simp [Ptr, I, EV.lit, Bs, SV, staC, SE, RE]) ?_
    rintro y H' ⟨rfl, rfl⟩
    refine ⟨.inl (by simp [Ptr, I, EV.lit, Bs, SV, staC, SE, RE]), le_ok rfl, ?_⟩
    simp [Ptr, I, EV.lit, Bs, SV, staC, SE, RE]
    refine call0 (SSum_ok s hs hm) (by simp [Ptr, I, EV.lit, Bs, SV, staC, SE, RE]) ?_
    rintro y H' ⟨rfl, rfl⟩
    refine ⟨.inl (by simp [Ptr, I, EV.lit, Bs, SV, staC, SE, RE]), le_ok rfl, ?_⟩
    simp [Ptr, I, EV.lit, Bs, SV, staC, SE, RE]
    refine call0 (SSum_ok s hs hm) (by simp [Ptr, I, EV.lit, Bs, SV, staC, SE, RE]) ?_
    rintro y H' ⟨rfl, rfl⟩
    refine ⟨.inl (by simp [Ptr, I, EV.lit, Bs, SV, staC, SE, RE]), le_ok rfl, ?_⟩
    simp [Ptr, I, EV.lit, Bs, SV, staC, SE, RE]
    simp [sumS_len]
    refine call0 (sure_ok) (by simp [Ptr, I, EV.lit, Bs, SV, staC, SE, RE]) ?_
    rintro y H' ⟨rfl, rfl⟩
    refine ⟨.inl (by simp [Ptr, I, EV.lit, Bs, SV, staC, SE, RE]), le_ok rfl, ?_⟩
    simp [Ptr, I, EV.lit, Bs, SV, staC, SE, RE]
    exact fin [] (by decide) rfl rfl rfl ⟨rfl, rfl⟩
  | false =>
    simp [Ptr, I, EV.lit, Bs, SV, staC, SE, RE]
    refine call0 (num_e 3) (by simp [Ptr, I, EV.lit, Bs, SV, staC, SE, RE]) ?_
    rintro y H' ⟨rfl, rfl⟩
    refine ⟨.inl (by simp [Ptr, I, EV.lit, Bs, SV, staC, SE, RE]), le_ok rfl, ?_⟩
    simp [Ptr, I, EV.lit, Bs, SV, staC, SE, RE]
    have w0 : IntKind.i64.wrap 0 = 0 := by decide +kernel
    simp [zSta, w0]
    refine call0 (sure_ok) (by simp [Ptr, I, EV.lit, Bs, SV, staC, SE, RE]) ?_
    rintro y H' ⟨rfl, rfl⟩
    refine ⟨.inl (by simp [Ptr, I, EV.lit, Bs, SV, staC, SE, RE]), le_ok rfl, ?_⟩
    simp [Ptr, I, EV.lit, Bs, SV, staC, SE, RE]
    exact fin [] (by decide) rfl rfl rfl ⟨rfl, rfl⟩

end Go.Proofs.YtpohjnhlhfbnaaaDoor
