import Derived.Test.YtpilpjameifcfaaDoorPWire6
namespace Go.Proofs.YtpilpjameifcfaaDoor
open Go Go.EW
set_option linter.unusedSimpArgs false
set_option linter.unusedVariables false

@[simp] def l_giveOp_1 (_ : Unit) : List EOp := [⟨0, (some 1), none, (.q (.box 33 (.t 0))), []⟩, ⟨1, (some 2), none, (.q (.alloc 47 (([(.int .i64 0), (.int .i64 0), (.int .i64 0), (.int .i64 0), (.int .i64 0), (.int .i64 0), (.int .i64 0)] : List Value) ++ zU8 ++ [(.slice none 0 0)]))), []⟩]
@[simp] def b_giveOp_2 (_ : Unit) : EB := reg0 (hid l_giveOp_1) 2
@[simp] def l_giveOp_3 (_ : Unit) : List EOp := [⟨0, (some 3), none, (.q (.mov (.k (.slice none 0 0)))), []⟩]
@[simp] def b_giveOp_4 (_ : Unit) : EB := reg0 (hid l_giveOp_3) 1
@[simp] def l_giveOp_7 (_ : Unit) : List EOp := [⟨12, (some 16), none, (.q (.build (([(.int .i64 0), (.int .i64 0), (.int .i64 0), (.int .i64 0), (.int .i64 0), (.int .i64 0), (.int .i64 0)] : List Value) ++ zU8 ++ [(.slice none 0 0)]) [(0, 1, (.t 5)), (1, 1, (.t 7)), (2, 1, (.t 9)), (3, 36, (.t 11)), (39, 1, (.t 15))])), []⟩, ⟨13, none, none, (.fz (.sto 40 (.t 2) (.t 16))), []⟩]
@[simp] def l_giveOp_6 (_ : Unit) : List EOp := ⟨6, (some 10), none, (.q (.fad 3 (.t 1))), []⟩ :: ⟨7, (some 11), none, (.q (.lda 36 (.t 10))), []⟩ :: ⟨8, (some 12), none, (.q (.mov (.t 3))), []⟩ :: ⟨9, (some 13), none, (.q (.fad 39 (.t 1))), []⟩ :: ⟨10, (some 14), none, (.q (.ldc (.t 13))), []⟩ :: ⟨11, (some 15), none, (.app 5 1 1 (.t 12) (.t 14)), [0, 1, 2, 3, 4, 5, 6, 7]⟩ :: hid l_giveOp_7
@[simp] def l_giveOp_5 (_ : Unit) : List EOp := ⟨0, (some 4), none, (.q (.fad 0 (.t 1))), []⟩ :: ⟨1, (some 5), none, (.q (.ldc (.t 4))), []⟩ :: ⟨2, (some 6), none, (.q (.fad 1 (.t 1))), []⟩ :: ⟨3, (some 7), none, (.q (.ldc (.t 6))), []⟩ :: ⟨4, (some 8), none, (.q (.fad 2 (.t 1))), []⟩ :: ⟨5, (some 9), none, (.q (.ldc (.t 8))), []⟩ :: hid l_giveOp_6
@[simp] def b_giveOp_8 (_ : Unit) : EB := reg1 (hid l_giveOp_5) 14
@[simp] def b_giveOp_9 (_ : Unit) : EB := .seq (hid b_giveOp_8) .ret
@[simp] def b_giveOp_10 (_ : Unit) : EB := .seq (hid b_giveOp_4) (hid b_giveOp_9)
@[simp] def b_giveOp_11 (_ : Unit) : EB := .seq (hid b_giveOp_2) (hid b_giveOp_10)
def c_giveOp : EB × List QOp × Nat := ((hid b_giveOp_11), [(.lda 40 (.t 2))], 17)
theorem k_giveOp : cfun Tryd.prog 10 = some c_giveOp := by kernel_rfl

@[simp] def l_giveMsg_1 (_ : Unit) : List EOp := [⟨0, (some 1), none, (.q (.box 52 (.t 0))), []⟩, ⟨1, (some 2), none, (.q (.alloc 55 (([(.int .i64 0), (.int .i64 0), (.int .i64 0), (.int .i64 0), (.int .i64 0), (.int .i64 0), (.int .i64 0), (.int .i64 0), (.int .i64 0)] : List Value) ++ zU8 ++ (([(.slice none 0 0)] : List Value) ++ zU8 ++ [(.slice none 0 0)])))), []⟩]
@[simp] def b_giveMsg_2 (_ : Unit) : EB := reg0 (hid l_giveMsg_1) 2
@[simp] def l_giveMsg_3 (_ : Unit) : List EOp := [⟨0, (some 3), none, (.q (.mov (.k (.slice none 0 0)))), []⟩]
@[simp] def b_giveMsg_4 (_ : Unit) : EB := reg0 (hid l_giveMsg_3) 1
@[simp] def l_giveMsg_7 (_ : Unit) : List EOp := [⟨12, (some 16), none, (.app 5 1 1 (.t 13) (.t 15)), [0, 1, 2, 3, 7, 8]⟩, ⟨13, (some 17), none, (.q (.build (([(.int .i64 0), (.int .i64 0), (.int .i64 0), (.int .i64 0), (.int .i64 0), (.int .i64 0), (.int .i64 0), (.int .i64 0), (.int .i64 0)] : List Value) ++ zU8 ++ (([(.slice none 0 0)] : List Value) ++ zU8 ++ [(.slice none 0 0)])) [(0, 1, (.t 5)), (1, 1, (.t 7)), (2, 40, (.t 10)), (42, 32, (.t 12)), (74, 1, (.t 16))])), []⟩, ⟨14, none, none, (.fz (.sto 75 (.t 2) (.t 17))), []⟩]
@[simp] def l_giveMsg_6 (_ : Unit) : List EOp := ⟨7, (some 11), none, (.q (.fad 42 (.t 1))), []⟩ :: ⟨8, (some 12), none, (.q (.lda 32 (.t 11))), []⟩ :: ⟨9, (some 13), none, (.q (.mov (.t 3))), []⟩ :: ⟨10, (some 14), none, (.q (.fad 74 (.t 1))), []⟩ :: ⟨11, (some 15), none, (.q (.ldc (.t 14))), []⟩ :: ⟨6, (some 10), none, (.call 10 [(.t 9)]), [0, 1, 2, 3, 7, 8, 9, 10, 11]⟩ :: hid l_giveMsg_7
@[simp] def l_giveMsg_5 (_ : Unit) : List EOp := ⟨0, (some 4), none, (.q (.fad 0 (.t 1))), []⟩ :: ⟨1, (some 5), none, (.q (.ldc (.t 4))), []⟩ :: ⟨2, (some 6), none, (.q (.fad 1 (.t 1))), []⟩ :: ⟨3, (some 7), none, (.q (.ldc (.t 6))), []⟩ :: ⟨4, (some 8), none, (.q (.fad 2 (.t 1))), []⟩ :: ⟨5, (some 9), none, (.q (.lda 40 (.t 8))), []⟩ :: hid l_giveMsg_6
@[simp] def b_giveMsg_8 (_ : Unit) : EB := reg1 (hid l_giveMsg_5) 15
@[simp] def b_giveMsg_9 (_ : Unit) : EB := .seq (hid b_giveMsg_8) .ret
@[simp] def b_giveMsg_10 (_ : Unit) : EB := .seq (hid b_giveMsg_4) (hid b_giveMsg_9)
@[simp] def b_giveMsg_11 (_ : Unit) : EB := .seq (hid b_giveMsg_2) (hid b_giveMsg_10)
def c_giveMsg : EB × List QOp × Nat := ((hid b_giveMsg_11), [(.lda 75 (.t 2))], 18)
theorem k_giveMsg : cfun Tryd.prog 13 = some c_giveMsg := by kernel_rfl


@[simp] theorem fz_hc (o es : Nat) (xs : List (List FV)) (l : List UInt8) : (hc l).map (fzE o es xs) = hc l := by
  induction l with
  | nil => rfl
  | cons b r ih =>
    have e : hc (b :: r) = .fz (.lit (.int .u8 (b.toNat : Int))) :: hc r := rfl
    rw [e, List.map_cons, ih]
    rfl

set_option maxRecDepth 8000 in
set_option maxHeartbeats 8000000 in
theorem giveOp_ok (o : WOp) (ho : o.ok) : ECalls Tryd.prog 10 [WV o] [] fun y H' => H' = [] ∧ y = WV o := by
  have h32 := ho.2.2.2.1.2.2.2.2
  have hs := ho.2.2.2.2
  have t32 : o.pay.lock.take 32 = o.pay.lock := List.take_of_length_le (by omega)
  have hcn : hc ([] : List UInt8) = [] := rfl
  have z33 := dr33 hz_len
  refine ecalls k_giveOp ?_
  simp [c_giveOp, WV, wopC, h32, t32, hcn, z33, tk33 h32, dr33 h32]
  refine ⟨⟨by omega, by omega⟩, ?_⟩
  refine finW _ (weak_frz (o := 224) (ty := 5) (es := 1) (xs := bsv o.sec) rfl) ?_
  exact fin [] (by decide) (v := WV o) (by simp [resV, resT, evT, asT, WV, wopC, fzEO, h32, t32, hcn, tk33 h32]) (by simp [conR, conTs, conT, WV, wopC]) rfl ⟨rfl, rfl⟩

set_option maxRecDepth 8000 in
set_option maxHeartbeats 8000000 in
theorem giveMsg_ok (m : WMsg) (hm : m.ok) : ECalls Tryd.prog 13 [MV m] [] fun y H' => H' = [] ∧ y = MV m := by
  have ho := hm.2.2.1
  have h32 := ho.2.2.2.1.2.2.2.2
  have hs := ho.2.2.2.2
  have h4 := hm.2.2.2.1
  have h5 := hm.2.2.2.2
  have t32 : m.op.pay.lock.take 32 = m.op.pay.lock := List.take_of_length_le (by omega)
  have t4 : m.lock.take 32 = m.lock := List.take_of_length_le (by omega)
  have hcn : hc ([] : List UInt8) = [] := rfl
  have z33 := dr33 hz_len
  have z66 := dr66 hz_len hz_len
  have i65 := ix65 h32 h4
  have a32 := tk32a h4
  have d65 := dr65 h32 h4
  have u65 := tk65 h32 h4
  have d66 := dr66 h32 h4
  have u66 := tk66 h32 h4
  have z65 := dr65 h32 hz_len
  refine ecalls k_giveMsg ?_
  simp [c_giveMsg, MV, msgC, wopC, h32, h4, t32, t4, hcn, i65, a32, z33, z66, tk33 h32, dr33 h32, tk33 h4, dr33 h4]
  refine call0 (giveOp_ok m.op ho) (by simp [WV, wopC]) ?_
  rintro y H' ⟨rfl, rfl⟩
  refine ⟨.inl (by simp), le_ok rfl, ?_⟩
  simp [WV, wopC, h32, h4, t32, t4, hcn, i65, a32, z33, z66, tk33 h32, dr33 h32, tk33 h4, dr33 h4, d65, u65, d66, u66, z65]
  refine ⟨⟨by omega, by omega⟩, ?_⟩
  refine finW _ (weak_frz (o := 240) (ty := 5) (es := 1) (xs := bsv m.sec) rfl) ?_
  exact fin [] (by decide) (v := MV m) (by simp [resV, resT, evT, asT, MV, msgC, wopC, fzEO, h32, h4, t32, t4, hcn, tk33 h32, u65, u66, d66, z65]) (by simp [conR, conTs, conT, MV, msgC, wopC]) rfl ⟨rfl, rfl⟩

end Go.Proofs.YtpilpjameifcfaaDoor
