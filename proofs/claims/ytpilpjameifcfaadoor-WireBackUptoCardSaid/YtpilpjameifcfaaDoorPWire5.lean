import Derived.Test.YtpilpjameifcfaaDoorPWire4a
namespace Go.Proofs.YtpilpjameifcfaaDoor
open Go Go.EW
set_option linter.unusedSimpArgs false
set_option linter.unusedVariables false

@[simp] def l_WEncode_1 (_ : Unit) : List EOp := [⟨0, (some 1), none, (.q (.box 55 (.t 0))), []⟩, ⟨1, (some 2), none, (.q (.mov (.k (.slice none 0 0)))), []⟩]
@[simp] def b_WEncode_2 (_ : Unit) : EB := reg0 (hid l_WEncode_1) 2
@[simp] def l_WEncode_6 (_ : Unit) : List EOp := [⟨18, (some 2), none, (.q (.mov (.t 20))), []⟩]
@[simp] def l_WEncode_5 (_ : Unit) : List EOp := ⟨6, (some 9), none, (.call 28 [(.t 6), (.t 8)]), [7, 8, 11, 12, 14, 15]⟩ :: ⟨9, (some 12), none, (.call 18 [(.t 11)]), [11, 12, 14, 15]⟩ :: ⟨10, (some 13), none, (.call 29 [(.t 9), (.t 12)]), [11, 12, 14, 15]⟩ :: ⟨13, (some 16), none, (.call 30 [(.t 13), (.t 15)]), [14, 15]⟩ :: ⟨16, (some 19), none, (.call 29 [(.t 16), (.t 18)]), []⟩ :: ⟨17, (some 20), none, (.call 31 [(.t 19)]), []⟩ :: hid l_WEncode_6
@[simp] def l_WEncode_4 (_ : Unit) : List EOp := ⟨11, (some 14), none, (.q (.fad 42 (.t 1))), []⟩ :: ⟨12, (some 15), none, (.q (.lda 32 (.t 14))), []⟩ :: ⟨14, (some 17), none, (.q (.fad 74 (.t 1))), []⟩ :: ⟨15, (some 18), none, (.q (.ldc (.t 17))), []⟩ :: ⟨0, (some 3), none, (.call 27 []), [1, 2, 4, 5, 7, 8, 11, 12, 14, 15]⟩ :: ⟨3, (some 6), none, (.call 28 [(.t 3), (.t 5)]), [4, 5, 7, 8, 11, 12, 14, 15]⟩ :: hid l_WEncode_5
@[simp] def l_WEncode_3 (_ : Unit) : List EOp := ⟨1, (some 4), none, (.q (.fad 0 (.t 1))), []⟩ :: ⟨2, (some 5), none, (.q (.ldc (.t 4))), []⟩ :: ⟨4, (some 7), none, (.q (.fad 1 (.t 1))), []⟩ :: ⟨5, (some 8), none, (.q (.ldc (.t 7))), []⟩ :: ⟨7, (some 10), none, (.q (.fad 2 (.t 1))), []⟩ :: ⟨8, (some 11), none, (.q (.lda 40 (.t 10))), []⟩ :: hid l_WEncode_4
@[simp] def b_WEncode_7 (_ : Unit) : EB := reg1 (hid l_WEncode_3) 19
@[simp] def b_WEncode_8 (_ : Unit) : EB := .seq (hid b_WEncode_7) .ret
@[simp] def b_WEncode_9 (_ : Unit) : EB := .seq (hid b_WEncode_2) (hid b_WEncode_8)
def c_WEncode : EB × List QOp × Nat := ((hid b_WEncode_9), [(.mov (.t 2))], 21)
theorem k_WEncode : cfun Tryd.prog 12 = some c_WEncode := by kernel_rfl


theorem ix65 {x y : List UInt8} (hx : x.length = 32) (hy : y.length = 32) (u v : EC) : (hc x ++ u :: (hc y ++ [v]))[65]? = some v := by
  have h1 : (hc x).length = 32 := by rw [hc_len, hx]
  have h2 : (hc y).length = 32 := by rw [hc_len, hy]
  rw [List.getElem?_append_right (by omega), h1]
  show (u :: (hc y ++ [v]))[33]? = _
  rw [List.getElem?_cons_succ, List.getElem?_append_right (by omega), h2]
  rfl
theorem tk32a {y : List UInt8} (hy : y.length = 32) (r : List EC) : List.take 32 (hc y ++ r) = hc y := by
  have h2 : (hc y).length = 32 := by rw [hc_len, hy]
  rw [List.take_append, h2, List.take_of_length_le (by omega)]
  simp

set_option maxRecDepth 8000 in
set_option maxHeartbeats 8000000 in
theorem WEncode_ok (m : WMsg) (hm : m.ok) : ECalls Tryd.prog 12 [MV m] [] fun y H' => H' = [] ∧ y = Bs (encM m) := by
  obtain ⟨h1, h2, h3, h4, h5⟩ := hm
  have lo := encO_len h3
  have hs := h3.2.2.2.2
  have l1 := intB_len9 h1
  have l2 := intB_len9 h2
  have l3 := bytesB_len (encO m.op)
  have l4 := bytesB_len m.sec
  have h32 := h3.2.2.2.1.2.2.2.2
  have t32 : m.op.pay.lock.take 32 = m.op.pay.lock := List.take_of_length_le (by omega)
  have t32m : m.lock.take 32 = m.lock := List.take_of_length_le (by omega)
  have hcn : hc ([] : List UInt8) = [] := rfl
  have i65 := ix65 h32 h4
  have a32 := tk32a h4
  refine ecalls k_WEncode ?_
  simp [c_WEncode, MV, msgC, wopC, i65, a32, tk33 h32, dr33 h32]
  refine ⟨by omega, by omega, ?_⟩
  refine call0 (New_ok) (by simp [Ptr, NP, I, R, RO, WO, Bs, EV.lit, Ag]) ?_
  rintro y H' ⟨rfl, rfl⟩
  refine ⟨.inl (by simp [Ptr, NP, I, R, RO, WO, Bs, EV.lit, Ag]), le_ok rfl, ?_⟩
  simp [Ptr, NP, I, R, RO, WO, Bs, EV.lit, Ag]
  refine callH [32, 33] (WInt_ok [] m.kind h1.1 h1.2 (by simp)) (by simp [Ptr, NP, I, R, RO, WO, Bs, EV.lit, Ag]) (by simp [Ptr, NP, I, R, RO, WO, Bs, EV.lit, Ag]) (by simp) (by simp [Ptr, NP, I, R, RO, WO, Bs, EV.lit, Ag]) (by simp [Wok]) ?_
  rintro y H' ⟨rfl, rfl⟩
  refine ⟨.inl (by simp [Ptr, NP, I, R, RO, WO, Bs, EV.lit, Ag]), le_ok rfl, ?_⟩
  simp [Ptr, NP, I, R, RO, WO, Bs, EV.lit, Ag]
  refine callH [32, 80] (WInt_ok (intB m.kind) m.num h2.1 h2.2 (by omega)) (by simp [Ptr, NP, I, R, RO, WO, Bs, EV.lit, Ag]) (by simp [Ptr, NP, I, R, RO, WO, Bs, EV.lit, Ag]) (by simp) (by simp [Ptr, NP, I, R, RO, WO, Bs, EV.lit, Ag]) (by simp [Wok]) ?_
  rintro y H' ⟨rfl, rfl⟩
  refine ⟨.inl (by simp [Ptr, NP, I, R, RO, WO, Bs, EV.lit, Ag]), le_ok rfl, ?_⟩
  simp [WO, RO, Ptr, h32, h4, t32, t32m, hcn, tk33 h32, tk33 h4]
  refine call0 (EncodeOp_ok m.op h3) (by simp [WV, wopC]) ?_
  rintro y H' ⟨rfl, rfl⟩
  refine ⟨.inl (by simp), le_ok rfl, ?_⟩
  simp [Bs]
  refine callH [32, 128] (WBytes_ok (intB m.kind ++ intB m.num) (encO m.op) (by simp; omega) (by omega)) (by simp [Ptr, NP, I, R, RO, WO, Bs, EV.lit, Ag, h4]) (by simp [Ptr, NP, I, R, RO, WO, Bs, EV.lit, Ag, h4]) (by simp) (by simp [Ptr, NP, I, R, RO, WO, Bs, EV.lit, Ag, h4]) (by simp [Wok]) ?_
  rintro y H' ⟨rfl, rfl⟩
  refine ⟨.inl (by simp [Ptr, NP, I, R, RO, WO, Bs, EV.lit, Ag, h4]), le_ok rfl, ?_⟩
  simp [WO, RO, Ptr, h32, h4, t32, t32m, hcn, a32, dr33 h32]
  refine callH [32, 192] (WHash_ok (intB m.kind ++ intB m.num ++ bytesB (encO m.op)) m.lock (by simp; omega) h4) (by simp [Ptr, NP, I, R, RO, WO, Bs, EV.lit, Ag, h4]) (by simp [Ptr, NP, I, R, RO, WO, Bs, EV.lit, Ag, h4]) (by simp) (by simp [Ptr, NP, I, R, RO, WO, Bs, EV.lit, Ag, h4]) (by simp [Wok]) ?_
  rintro y H' ⟨rfl, rfl⟩
  refine ⟨.inl (by simp [Ptr, NP, I, R, RO, WO, Bs, EV.lit, Ag, h4]), le_ok rfl, ?_⟩
  simp [WO, RO, Ptr, h32, h4, t32, t32m, hcn]
  refine callH [32, 240] (WBytes_ok (intB m.kind ++ intB m.num ++ bytesB (encO m.op) ++ m.lock) m.sec (by simp; omega) (by omega)) (by simp [Ptr, NP, I, R, RO, WO, Bs, EV.lit, Ag, h4]) (by simp [Ptr, NP, I, R, RO, WO, Bs, EV.lit, Ag, h4]) (by simp) (by simp [Ptr, NP, I, R, RO, WO, Bs, EV.lit, Ag, h4]) (by simp [Wok]) ?_
  rintro y H' ⟨rfl, rfl⟩
  refine ⟨.inl (by simp [Ptr, NP, I, R, RO, WO, Bs, EV.lit, Ag, h4]), le_ok rfl, ?_⟩
  simp [WO, RO, Ptr, h4]
  refine callH [32, 288] (WDone_ok (intB m.kind ++ intB m.num ++ bytesB (encO m.op) ++ m.lock ++ bytesB m.sec) (by simp; omega)) (by simp [Ptr, NP, I, R, RO, WO, Bs, EV.lit, Ag, h4]) (by simp [Ptr, NP, I, R, RO, WO, Bs, EV.lit, Ag, h4]) (by simp) (by simp [Ptr, NP, I, R, RO, WO, Bs, EV.lit, Ag, h4]) (by simp [Wok]) ?_
  rintro y H' ⟨rfl, rfl⟩
  refine ⟨.inl (by simp [Ptr, NP, I, R, RO, WO, Bs, EV.lit, Ag, h4]), le_ok rfl, ?_⟩
  simp [R, RO, WO]
  refine finW _ (weak_frz (o := 304) (ty := 5) (es := 1) (xs := bsv (intB m.kind ++ (intB m.num ++ (bytesB (encO m.op) ++ (m.lock ++ bytesB m.sec))))) rfl) ?_
  exact fin [] (by decide) rfl rfl rfl ⟨rfl, by simp [Bs, encM, h4, List.take_of_length_le]⟩

end Go.Proofs.YtpilpjameifcfaaDoor
