import Derived.Test.YtpilpjameifcfaaDoorPWire7
namespace Go.Proofs.YtpilpjameifcfaaDoor
open Go Go.EW
set_option linter.unusedSimpArgs false
set_option linter.unusedVariables false

@[simp] def l_WireBack_1 (_ : Unit) : List EOp := [⟨0, (some 1), none, (.q (.box 52 (.t 0))), []⟩, ⟨1, (some 2), none, (.q (.mov (.k (.bool false)))), []⟩]
@[simp] def b_WireBack_2 (_ : Unit) : EB := reg0 (hid l_WireBack_1) 2
@[simp] def l_WireBack_6 (_ : Unit) : List EOp := [⟨18, (some 24), (some (20, false)), (.q (.len (.t 23))), []⟩, ⟨19, (some 25), (some (20, false)), (.q (.bin .gtr (.t 24) (.k (.int .i64 64)))), []⟩, ⟨20, (some 26), none, (.q (.pick (.t 20) (.k (.bool true)) (.t 25))), []⟩]
@[simp] def l_WireBack_5 (_ : Unit) : List EOp := ⟨12, (some 18), (some (14, false)), (.q (.bin .gtr (.t 17) (.k (.int .i64 64)))), []⟩ :: ⟨13, (some 19), none, (.q (.pick (.t 14) (.k (.bool true)) (.t 18))), []⟩ :: ⟨14, (some 20), none, (.q (.mov (.t 19))), []⟩ :: ⟨15, (some 21), (some (20, false)), (.q (.fad 2 (.t 1))), []⟩ :: ⟨16, (some 22), (some (20, false)), (.q (.fad 39 (.t 21))), []⟩ :: ⟨17, (some 23), (some (20, false)), (.q (.ldc (.t 22))), []⟩ :: hid l_WireBack_6
@[simp] def l_WireBack_4 (_ : Unit) : List EOp := ⟨6, (some 12), (some (9, false)), (.q (.bin .gtr (.t 11) (.k (.int .i64 5)))), []⟩ :: ⟨7, (some 13), none, (.q (.pick (.t 9) (.k (.bool true)) (.t 12))), []⟩ :: ⟨8, (some 14), none, (.q (.mov (.t 13))), []⟩ :: ⟨9, (some 15), (some (14, false)), (.q (.fad 74 (.t 1))), []⟩ :: ⟨10, (some 16), (some (14, false)), (.q (.ldc (.t 15))), []⟩ :: ⟨11, (some 17), (some (14, false)), (.q (.len (.t 16))), []⟩ :: hid l_WireBack_5
@[simp] def l_WireBack_3 (_ : Unit) : List EOp := ⟨0, (some 6), none, (.q (.fad 0 (.t 1))), []⟩ :: ⟨1, (some 7), none, (.q (.ldc (.t 6))), []⟩ :: ⟨2, (some 8), none, (.q (.bin .lss (.t 7) (.k (.int .i64 1)))), []⟩ :: ⟨3, (some 9), none, (.q (.mov (.t 8))), []⟩ :: ⟨4, (some 10), (some (9, false)), (.q (.fad 0 (.t 1))), []⟩ :: ⟨5, (some 11), (some (9, false)), (.q (.ldc (.t 10))), []⟩ :: hid l_WireBack_4
@[simp] def b_WireBack_7 (_ : Unit) : EB := reg0 (hid l_WireBack_3) 21
@[simp] def l_WireBack_8 (_ : Unit) : List EOp := [⟨0, (some 27), none, (.call 7 []), []⟩, ⟨1, (some 2), none, (.q (.mov (.t 27))), []⟩]
@[simp] def b_WireBack_9 (_ : Unit) : EB := reg0 (hid l_WireBack_8) 2
@[simp] def b_WireBack_10 (_ : Unit) : EB := .seq (hid b_WireBack_9) .ret
@[simp] def b_WireBack_11 (_ : Unit) : EB := .cond (.t 26) (hid b_WireBack_10) .skip
@[simp] def b_WireBack_12 (_ : Unit) : EB := .seq (hid b_WireBack_7) (hid b_WireBack_11)
@[simp] def l_WireBack_13 (_ : Unit) : List EOp := [⟨0, (some 28), none, (.q (.lda 75 (.t 1))), []⟩, ⟨1, (some 29), none, (.call 13 [(.t 28)]), []⟩, ⟨2, (some 30), none, (.call 12 [(.t 29)]), []⟩, ⟨3, (some 3), none, (.q (.mov (.t 30))), []⟩]
@[simp] def b_WireBack_14 (_ : Unit) : EB := reg0 (hid l_WireBack_13) 4
@[simp] def l_WireBack_16 (_ : Unit) : List EOp := [⟨6, none, none, (.fz (.sto 75 (.t 4) (.t 34))), []⟩, ⟨7, (some 5), none, (.q (.mov (.t 35))), []⟩]
@[simp] def l_WireBack_15 (_ : Unit) : List EOp := ⟨0, (some 32), none, (.q (.mov (.t 3))), []⟩ :: ⟨1, (some 33), none, (.call 14 [(.t 32)]), []⟩ :: ⟨2, (some 31), none, (.q (.mov (.t 33))), []⟩ :: ⟨3, (some 34), none, (.q (.ext 0 (.t 31))), []⟩ :: ⟨4, (some 35), none, (.q (.ext 1 (.t 31))), []⟩ :: ⟨5, (some 4), none, (.q (.alloc 55 (([(.int .i64 0), (.int .i64 0), (.int .i64 0), (.int .i64 0), (.int .i64 0), (.int .i64 0), (.int .i64 0), (.int .i64 0), (.int .i64 0)] : List Value) ++ zU8 ++ (([(.slice none 0 0)] : List Value) ++ zU8 ++ [(.slice none 0 0)])))), []⟩ :: hid l_WireBack_16
@[simp] def b_WireBack_17 (_ : Unit) : EB := reg0 (hid l_WireBack_15) 8
@[simp] def l_WireBack_23 (_ : Unit) : List EOp := [⟨30, (some 66), none, (.q (.pick (.t 60) (.t 65) (.k (.bool false)))), []⟩, ⟨31, (some 67), none, (.q (.mov (.t 66))), []⟩, ⟨32, (some 68), (some (67, true)), (.call 7 []), []⟩, ⟨33, (some 69), none, (.q (.pick (.t 67) (.t 68) (.k (.bool false)))), []⟩, ⟨34, (some 2), none, (.q (.mov (.t 69))), []⟩]
@[simp] def l_WireBack_22 (_ : Unit) : List EOp := ⟨24, (some 60), none, (.q (.mov (.t 59))), []⟩ :: ⟨25, (some 61), (some (60, true)), (.q (.fad 42 (.t 4))), []⟩ :: ⟨26, (some 62), (some (60, true)), (.q (.lda 32 (.t 61))), []⟩ :: ⟨27, (some 63), (some (60, true)), (.q (.fad 42 (.t 1))), []⟩ :: ⟨28, (some 64), (some (60, true)), (.q (.lda 32 (.t 63))), []⟩ :: ⟨29, (some 65), (some (60, true)), (.q (.eqa false 32 .u8 (.t 62) (.t 64))), []⟩ :: hid l_WireBack_23
@[simp] def l_WireBack_21 (_ : Unit) : List EOp := ⟨18, (some 54), (some (53, true)), (.q (.fad 1 (.t 4))), []⟩ :: ⟨19, (some 55), (some (53, true)), (.q (.ldc (.t 54))), []⟩ :: ⟨20, (some 56), (some (53, true)), (.q (.fad 1 (.t 1))), []⟩ :: ⟨21, (some 57), (some (53, true)), (.q (.ldc (.t 56))), []⟩ :: ⟨22, (some 58), (some (53, true)), (.q (.bin .eql (.t 55) (.t 57))), []⟩ :: ⟨23, (some 59), none, (.q (.pick (.t 53) (.t 58) (.k (.bool false)))), []⟩ :: hid l_WireBack_22
@[simp] def l_WireBack_20 (_ : Unit) : List EOp := ⟨12, (some 48), (some (46, true)), (.q (.ldc (.t 47))), []⟩ :: ⟨13, (some 49), (some (46, true)), (.q (.fad 0 (.t 1))), []⟩ :: ⟨14, (some 50), (some (46, true)), (.q (.ldc (.t 49))), []⟩ :: ⟨15, (some 51), (some (46, true)), (.q (.bin .eql (.t 48) (.t 50))), []⟩ :: ⟨16, (some 52), none, (.q (.pick (.t 46) (.t 51) (.k (.bool false)))), []⟩ :: ⟨17, (some 53), none, (.q (.mov (.t 52))), []⟩ :: hid l_WireBack_21
@[simp] def l_WireBack_19 (_ : Unit) : List EOp := ⟨4, (some 40), (some (38, true)), (.call 12 [(.t 39)]), [6, 7]⟩ :: ⟨5, (some 41), (some (38, true)), (.q (.b2s (.t 40))), []⟩ :: ⟨8, (some 44), (some (38, true)), (.q (.bin .eql (.t 41) (.t 43))), []⟩ :: ⟨9, (some 45), none, (.q (.pick (.t 38) (.t 44) (.k (.bool false)))), []⟩ :: ⟨10, (some 46), none, (.q (.mov (.t 45))), []⟩ :: ⟨11, (some 47), (some (46, true)), (.q (.fad 0 (.t 4))), []⟩ :: hid l_WireBack_20
@[simp] def l_WireBack_18 (_ : Unit) : List EOp := ⟨0, (some 36), none, (.q (.mov (.t 5))), []⟩ :: ⟨1, (some 37), none, (.q (.eqi false (.t 36))), []⟩ :: ⟨2, (some 38), none, (.q (.mov (.t 37))), []⟩ :: ⟨3, (some 39), (some (38, true)), (.q (.lda 75 (.t 4))), []⟩ :: ⟨6, (some 42), (some (38, true)), (.q (.mov (.t 3))), []⟩ :: ⟨7, (some 43), (some (38, true)), (.q (.b2s (.t 42))), []⟩ :: hid l_WireBack_19
@[simp] def b_WireBack_24 (_ : Unit) : EB := reg1 (hid l_WireBack_18) 35
@[simp] def b_WireBack_25 (_ : Unit) : EB := .seq (hid b_WireBack_24) .ret
@[simp] def b_WireBack_26 (_ : Unit) : EB := .seq (hid b_WireBack_17) (hid b_WireBack_25)
@[simp] def b_WireBack_27 (_ : Unit) : EB := .seq (hid b_WireBack_14) (hid b_WireBack_26)
@[simp] def b_WireBack_28 (_ : Unit) : EB := .seq (hid b_WireBack_12) (hid b_WireBack_27)
@[simp] def b_WireBack_29 (_ : Unit) : EB := .seq (hid b_WireBack_2) (hid b_WireBack_28)
def c_WireBack : EB × List QOp × Nat := ((hid b_WireBack_29), [(.mov (.t 2))], 70)
theorem k_WireBack : cfun Tryd.prog 4 = some c_WireBack := by kernel_rfl


set_option maxRecDepth 8000 in
set_option maxHeartbeats 8000000 in
theorem WireBack_ok (m : WMsg) (hm : m.ok) : ECalls Tryd.prog 4 [MV m] [] fun y H' => H' = [] ∧ y = .lit (.bool true) := by
  have ho := hm.2.2.1
  have h32 := ho.2.2.2.1.2.2.2.2
  have hs := ho.2.2.2.2
  have h4 := hm.2.2.2.1
  have h5 := hm.2.2.2.2
  have t32 : m.op.pay.lock.take 32 = m.op.pay.lock := List.take_of_length_le (by omega)
  have t4 : m.lock.take 32 = m.lock := List.take_of_length_le (by omega)
  have hcn : hc ([] : List UInt8) = [] := rfl
  have z33 := dr33 hz_len
  have z66 := dr66 hz_len hz_len
  have i65 := ix65 h32 h4
  have a32 := tk32a h4
  have d65 := dr65 h32 h4
  have u65 := tk65 h32 h4
  have d66 := dr66 h32 h4
  have u66 := tk66 h32 h4
  refine ecalls k_WireBack ?_
  simp [c_WireBack, MV, msgC, wopC, h32, h4, t32, t4, hcn, i65, a32, z33, z66, tk33 h32, dr33 h32, tk33 h4, dr33 h4]
  by_cases k1 : m.kind < 1
  · have n1 : ¬ 1 ≤ m.kind := by omega
    simp [k1, n1]
    refine call0 (sure_ok) (by simp [Ptr, I, EV.lit, Bs, WV, wopC, MV, msgC]) ?_
    rintro y H' ⟨rfl, rfl⟩
    refine ⟨.inl (by simp [Ptr, I, EV.lit, Bs, WV, wopC, MV, msgC]), le_ok rfl, ?_⟩
    simp [Ptr, I, EV.lit, Bs, WV, wopC, MV, msgC]
    exact fin [] (by decide) rfl rfl rfl ⟨rfl, rfl⟩
  have n1 : 1 ≤ m.kind := by omega
  simp [k1, n1]
  by_cases k5 : 5 < m.kind
  · have n5 : ¬ m.kind ≤ 5 := by omega
    simp [k5, n5]
    refine call0 (sure_ok) (by simp [Ptr, I, EV.lit, Bs, WV, wopC, MV, msgC]) ?_
    rintro y H' ⟨rfl, rfl⟩
    refine ⟨.inl (by simp [Ptr, I, EV.lit, Bs, WV, wopC, MV, msgC]), le_ok rfl, ?_⟩
    simp [Ptr, I, EV.lit, Bs, WV, wopC, MV, msgC]
    exact fin [] (by decide) rfl rfl rfl ⟨rfl, rfl⟩
  have n5 : m.kind ≤ 5 := by omega
  simp [k5, n5, i65]
  by_cases s1 : 64 < m.sec.length
  · have s1' : (64 : Int) < (m.sec.length : Int) := by omega
    have s1'' : ¬ (m.sec.length : Int) ≤ 64 := by omega
    have s1n : ¬ m.sec.length ≤ 64 := by omega
    simp [s1, s1', s1'', s1n]
    refine call0 (sure_ok) (by simp [Ptr, I, EV.lit, Bs, WV, wopC, MV, msgC]) ?_
    rintro y H' ⟨rfl, rfl⟩
    refine ⟨.inl (by simp [Ptr, I, EV.lit, Bs, WV, wopC, MV, msgC]), le_ok rfl, ?_⟩
    simp [Ptr, I, EV.lit, Bs, WV, wopC, MV, msgC]
    exact fin [] (by decide) rfl rfl rfl ⟨rfl, rfl⟩
  have s1' : ¬ (64 : Int) < (m.sec.length : Int) := by omega
  have s1'' : (m.sec.length : Int) ≤ 64 := by omega
  have s1n : m.sec.length ≤ 64 := by omega
  simp [s1, s1', s1'', s1n]
  by_cases s2 : 64 < m.op.sec.length
  · have s2' : (64 : Int) < (m.op.sec.length : Int) := by omega
    have s2'' : ¬ (m.op.sec.length : Int) ≤ 64 := by omega
    have s2n : ¬ m.op.sec.length ≤ 64 := by omega
    simp [s2, s2', s2'', s2n, h32, h4]
    refine call0 (sure_ok) (by simp [Ptr, I, EV.lit, Bs, WV, wopC, MV, msgC]) ?_
    rintro y H' ⟨rfl, rfl⟩
    refine ⟨.inl (by simp [Ptr, I, EV.lit, Bs, WV, wopC, MV, msgC]), le_ok rfl, ?_⟩
    simp [Ptr, I, EV.lit, Bs, WV, wopC, MV, msgC]
    exact fin [] (by decide) rfl rfl rfl ⟨rfl, rfl⟩
  have s2' : ¬ (64 : Int) < (m.op.sec.length : Int) := by omega
  have s2'' : (m.op.sec.length : Int) ≤ 64 := by omega
  have s2n : m.op.sec.length ≤ 64 := by omega
  simp [s2, s2', s2'', s2n, h32, h4, u66]
  refine call0 (giveMsg_ok m hm) (by simp [MV, msgC, wopC]) ?_
  rintro y H' ⟨rfl, rfl⟩
  refine ⟨.inl (by simp), le_ok rfl, ?_⟩
  simp [MV, msgC, wopC, h32, h4, u66]
  refine call0 (WEncode_ok m hm) (by simp [MV, msgC, wopC]) ?_
  rintro y H' ⟨rfl, rfl⟩
  refine ⟨.inl (by simp), le_ok rfl, ?_⟩
  simp [Bs, h32, h4, u66]
  have hen : (encM m).length ≤ 100000000 := by
    have a1 := intB_len9 hm.1
    have a2 := intB_len9 hm.2.1
    have a3 := bytesB_len (encO m.op)
    have a4 := bytesB_len m.sec
    have a5 := encO_len ho
    simp only [encM, List.length_append]
    omega
  have tM := WDecode_ok (encM m) hen
  rw [decM_rt hm ⟨n1, n5⟩ s1n s2n] at tM
  refine call0 tM (by simp [Bs]) ?_
  rintro y H' ⟨rfl, rfl⟩
  refine ⟨.inl (by simp), le_ok rfl, ?_⟩
  simp [ME, msgC, wopC, h32, h4, t32, t4, hcn, z33, z66, u66, d66]
  refine call0 (WEncode_ok m hm) (by simp [MV, msgC, wopC]) ?_
  rintro y H' ⟨rfl, rfl⟩
  refine ⟨.inl (by simp), le_ok rfl, ?_⟩
  simp [Bs, h32, h4, t32, t4, u66, u65, d65, a32, dr33 h32, tk33 h32, i65]
  refine call0 (sure_ok) (by simp [Ptr, I, EV.lit, Bs, WV, wopC, MV, msgC]) ?_
  rintro y H' ⟨rfl, rfl⟩
  refine ⟨.inl (by simp [Ptr, I, EV.lit, Bs, WV, wopC, MV, msgC]), le_ok rfl, ?_⟩
  simp [Ptr, I, EV.lit, Bs, WV, wopC, MV, msgC]
  exact fin [] (by decide) rfl rfl rfl ⟨rfl, rfl⟩

end Go.Proofs.YtpilpjameifcfaaDoor
