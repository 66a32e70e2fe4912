import Derived.Test.YtpilpjameifcfaaDoorPWire1
import Derived.Test.YtpilpjameifcfaaDoorPEnc3
import Derived.Test.YtpilpjameifcfaaDoorPEwX
namespace Go.Proofs.YtpilpjameifcfaaDoor
open Go Go.EW
set_option linter.unusedSimpArgs false
set_option linter.unusedVariables false

@[simp] def l_EncodeOp_1 (_ : Unit) : List EOp := [⟨0, (some 1), none, (.q (.box 47 (.t 0))), []⟩, ⟨1, (some 2), none, (.q (.mov (.k (.slice none 0 0)))), []⟩]
@[simp] def b_EncodeOp_2 (_ : Unit) : EB := reg0 (hid l_EncodeOp_1) 2
@[simp] def l_EncodeOp_4 (_ : Unit) : List EOp := [⟨0, (some 4), none, (.call 27 []), [1, 2, 4, 5, 7, 8]⟩, ⟨3, (some 7), none, (.call 28 [(.t 4), (.t 6)]), [4, 5, 7, 8]⟩, ⟨6, (some 10), none, (.call 28 [(.t 7), (.t 9)]), [7, 8]⟩, ⟨9, (some 13), none, (.call 28 [(.t 10), (.t 12)]), []⟩, ⟨10, (some 3), none, (.q (.mov (.t 13))), []⟩]
@[simp] def l_EncodeOp_3 (_ : Unit) : List EOp := ⟨1, (some 5), none, (.q (.fad 0 (.t 1))), []⟩ :: ⟨2, (some 6), none, (.q (.ldc (.t 5))), []⟩ :: ⟨4, (some 8), none, (.q (.fad 1 (.t 1))), []⟩ :: ⟨5, (some 9), none, (.q (.ldc (.t 8))), []⟩ :: ⟨7, (some 11), none, (.q (.fad 2 (.t 1))), []⟩ :: ⟨8, (some 12), none, (.q (.ldc (.t 11))), []⟩ :: hid l_EncodeOp_4
@[simp] def b_EncodeOp_5 (_ : Unit) : EB := reg1 (hid l_EncodeOp_3) 11
@[simp] def l_EncodeOp_8 (_ : Unit) : List EOp := [⟨15, (some 29), none, (.q (.ldc (.t 28))), []⟩, ⟨4, (some 18), none, (.call 28 [(.t 14), (.t 17)]), [5, 6, 7, 9, 10, 11, 13, 14, 15]⟩, ⟨8, (some 22), none, (.call 28 [(.t 18), (.t 21)]), [9, 10, 11, 13, 14, 15]⟩, ⟨12, (some 26), none, (.call 28 [(.t 22), (.t 25)]), [13, 14, 15]⟩, ⟨16, (some 30), none, (.call 28 [(.t 26), (.t 29)]), []⟩]
@[simp] def l_EncodeOp_7 (_ : Unit) : List EOp := ⟨7, (some 21), none, (.q (.ldc (.t 20))), []⟩ :: ⟨9, (some 23), none, (.q (.fad 3 (.t 1))), []⟩ :: ⟨10, (some 24), none, (.q (.fad 2 (.t 23))), []⟩ :: ⟨11, (some 25), none, (.q (.ldc (.t 24))), []⟩ :: ⟨13, (some 27), none, (.q (.fad 3 (.t 1))), []⟩ :: ⟨14, (some 28), none, (.q (.fad 3 (.t 27))), []⟩ :: hid l_EncodeOp_8
@[simp] def l_EncodeOp_6 (_ : Unit) : List EOp := ⟨0, (some 14), none, (.q (.mov (.t 3))), []⟩ :: ⟨1, (some 15), none, (.q (.fad 3 (.t 1))), []⟩ :: ⟨2, (some 16), none, (.q (.fad 0 (.t 15))), []⟩ :: ⟨3, (some 17), none, (.q (.ldc (.t 16))), []⟩ :: ⟨5, (some 19), none, (.q (.fad 3 (.t 1))), []⟩ :: ⟨6, (some 20), none, (.q (.fad 1 (.t 19))), []⟩ :: hid l_EncodeOp_7
@[simp] def b_EncodeOp_9 (_ : Unit) : EB := reg1 (hid l_EncodeOp_6) 17
@[simp] def l_EncodeOp_11 (_ : Unit) : List EOp := [⟨4, (some 35), none, (.call 30 [(.t 31), (.t 34)]), [5, 6]⟩, ⟨7, (some 38), none, (.call 29 [(.t 35), (.t 37)]), []⟩, ⟨8, (some 39), none, (.call 31 [(.t 38)]), []⟩, ⟨9, (some 2), none, (.q (.mov (.t 39))), []⟩]
@[simp] def l_EncodeOp_10 (_ : Unit) : List EOp := ⟨0, (some 31), none, (.q (.mov (.t 3))), []⟩ :: ⟨1, (some 32), none, (.q (.fad 3 (.t 1))), []⟩ :: ⟨2, (some 33), none, (.q (.fad 4 (.t 32))), []⟩ :: ⟨3, (some 34), none, (.q (.lda 32 (.t 33))), []⟩ :: ⟨5, (some 36), none, (.q (.fad 39 (.t 1))), []⟩ :: ⟨6, (some 37), none, (.q (.ldc (.t 36))), []⟩ :: hid l_EncodeOp_11
@[simp] def b_EncodeOp_12 (_ : Unit) : EB := reg1 (hid l_EncodeOp_10) 10
@[simp] def b_EncodeOp_13 (_ : Unit) : EB := .seq (hid b_EncodeOp_12) .ret
@[simp] def b_EncodeOp_14 (_ : Unit) : EB := .seq (hid b_EncodeOp_9) (hid b_EncodeOp_13)
@[simp] def b_EncodeOp_15 (_ : Unit) : EB := .seq (hid b_EncodeOp_5) (hid b_EncodeOp_14)
@[simp] def b_EncodeOp_16 (_ : Unit) : EB := .seq (hid b_EncodeOp_2) (hid b_EncodeOp_15)
def c_EncodeOp : EB × List QOp × Nat := ((hid b_EncodeOp_16), [(.mov (.t 2))], 40)
theorem k_EncodeOp : cfun Tryd.prog 18 = some c_EncodeOp := by kernel_rfl

@[simp] def l_REncodeOp_1 (_ : Unit) : List EOp := [⟨0, (some 1), none, (.q (.box 33 (.t 0))), []⟩, ⟨1, (some 2), none, (.q (.mov (.k (.slice none 0 0)))), []⟩]
@[simp] def b_REncodeOp_2 (_ : Unit) : EB := reg0 (hid l_REncodeOp_1) 2
@[simp] def l_REncodeOp_4 (_ : Unit) : List EOp := [⟨2, (some 6), none, (.call 42 [(.k (.slice none 0 0)), (.t 5)]), [3, 4, 6, 7]⟩, ⟨5, (some 9), none, (.call 42 [(.t 6), (.t 8)]), [6, 7]⟩, ⟨8, (some 12), none, (.call 42 [(.t 9), (.t 11)]), []⟩, ⟨9, (some 3), none, (.q (.mov (.t 12))), []⟩]
@[simp] def l_REncodeOp_3 (_ : Unit) : List EOp := ⟨0, (some 4), none, (.q (.fad 0 (.t 1))), []⟩ :: ⟨1, (some 5), none, (.q (.ldc (.t 4))), []⟩ :: ⟨3, (some 7), none, (.q (.fad 1 (.t 1))), []⟩ :: ⟨4, (some 8), none, (.q (.ldc (.t 7))), []⟩ :: ⟨6, (some 10), none, (.q (.fad 2 (.t 1))), []⟩ :: ⟨7, (some 11), none, (.q (.ldc (.t 10))), []⟩ :: hid l_REncodeOp_4
@[simp] def b_REncodeOp_5 (_ : Unit) : EB := reg1 (hid l_REncodeOp_3) 10
@[simp] def l_REncodeOp_8 (_ : Unit) : List EOp := [⟨15, (some 28), none, (.q (.ldc (.t 27))), []⟩, ⟨4, (some 17), none, (.call 42 [(.t 13), (.t 16)]), [5, 6, 7, 9, 10, 11, 13, 14, 15]⟩, ⟨8, (some 21), none, (.call 42 [(.t 17), (.t 20)]), [9, 10, 11, 13, 14, 15]⟩, ⟨12, (some 25), none, (.call 42 [(.t 21), (.t 24)]), [13, 14, 15]⟩, ⟨16, (some 29), none, (.call 42 [(.t 25), (.t 28)]), []⟩, ⟨17, (some 3), none, (.q (.mov (.t 29))), []⟩]
@[simp] def l_REncodeOp_7 (_ : Unit) : List EOp := ⟨7, (some 20), none, (.q (.ldc (.t 19))), []⟩ :: ⟨9, (some 22), none, (.q (.fad 3 (.t 1))), []⟩ :: ⟨10, (some 23), none, (.q (.fad 2 (.t 22))), []⟩ :: ⟨11, (some 24), none, (.q (.ldc (.t 23))), []⟩ :: ⟨13, (some 26), none, (.q (.fad 3 (.t 1))), []⟩ :: ⟨14, (some 27), none, (.q (.fad 3 (.t 26))), []⟩ :: hid l_REncodeOp_8
@[simp] def l_REncodeOp_6 (_ : Unit) : List EOp := ⟨0, (some 13), none, (.q (.mov (.t 3))), []⟩ :: ⟨1, (some 14), none, (.q (.fad 3 (.t 1))), []⟩ :: ⟨2, (some 15), none, (.q (.fad 0 (.t 14))), []⟩ :: ⟨3, (some 16), none, (.q (.ldc (.t 15))), []⟩ :: ⟨5, (some 18), none, (.q (.fad 3 (.t 1))), []⟩ :: ⟨6, (some 19), none, (.q (.fad 1 (.t 18))), []⟩ :: hid l_REncodeOp_7
@[simp] def b_REncodeOp_9 (_ : Unit) : EB := reg1 (hid l_REncodeOp_6) 18
@[simp] def l_REncodeOp_11 (_ : Unit) : List EOp := [⟨4, (some 34), none, (.call 44 [(.t 30), (.t 33)]), [5, 6]⟩, ⟨7, (some 37), none, (.call 43 [(.t 34), (.t 36)]), []⟩, ⟨8, (some 2), none, (.q (.mov (.t 37))), []⟩]
@[simp] def l_REncodeOp_10 (_ : Unit) : List EOp := ⟨0, (some 30), none, (.q (.mov (.t 3))), []⟩ :: ⟨1, (some 31), none, (.q (.fad 3 (.t 1))), []⟩ :: ⟨2, (some 32), none, (.q (.fad 4 (.t 31))), []⟩ :: ⟨3, (some 33), none, (.q (.lda 32 (.t 32))), []⟩ :: ⟨5, (some 35), none, (.q (.fad 39 (.t 1))), []⟩ :: ⟨6, (some 36), none, (.q (.ldc (.t 35))), []⟩ :: hid l_REncodeOp_11
@[simp] def b_REncodeOp_12 (_ : Unit) : EB := reg1 (hid l_REncodeOp_10) 9
@[simp] def b_REncodeOp_13 (_ : Unit) : EB := .seq (hid b_REncodeOp_12) .ret
@[simp] def b_REncodeOp_14 (_ : Unit) : EB := .seq (hid b_REncodeOp_9) (hid b_REncodeOp_13)
@[simp] def b_REncodeOp_15 (_ : Unit) : EB := .seq (hid b_REncodeOp_5) (hid b_REncodeOp_14)
@[simp] def b_REncodeOp_16 (_ : Unit) : EB := .seq (hid b_REncodeOp_2) (hid b_REncodeOp_15)
def c_REncodeOp : EB × List QOp × Nat := ((hid b_REncodeOp_16), [(.mov (.t 2))], 38)
theorem k_REncodeOp : cfun Tryd.prog 19 = some c_REncodeOp := by kernel_rfl


theorem RInt_nil (n : Int) (h0 : -9223372036854775808 ≤ n) (h1 : n ≤ 9223372036854775807) : ECalls Tryd.prog 42 [.v (.c (.fz (.lit (.slice none 0 0)))), I .i64 n] [] fun y H' => H' = [some (RO (intB n))] ∧ y = R 0 (intB n) := ecalls_nil (es := 1) (RInt_ok [] n h0 h1 (by simp))

set_option maxHeartbeats 4000000 in
theorem EncodeOp_ok (o : WOp) (ho : o.ok) : ECalls Tryd.prog 18 [WV o] [] fun y H' => H' = [] ∧ y = Bs (encO o) := by
  have hlen := encO_len ho
  obtain ⟨h1, h2, h3, ⟨h4, h5, h6, h7, h8⟩, h9⟩ := ho
  have l1 := intB_len9 h1
  have l2 := intB_len9 h2
  have l3 := intB_len9 h3
  have l4 := intB_len9 h4
  have l5 := intB_len9 h5
  have l6 := intB_len9 h6
  have l7 := intB_len9 h7
  have t32 : o.pay.lock.take 32 = o.pay.lock := List.take_of_length_le (by omega)
  have hcn : hc ([] : List UInt8) = [] := rfl
  refine ecalls k_EncodeOp ?_
  simp [c_EncodeOp, WV, wopC]
  refine call0 (New_ok) (by simp [Ptr, NP, I, R, RO, WO, Bs, EV.lit, Ag]) ?_
  rintro y H' ⟨rfl, rfl⟩
  refine ⟨.inl (by simp [Ptr, NP, I, R, RO, WO, Bs, EV.lit, Ag]), le_ok rfl, ?_⟩
  simp [Ptr, NP, I, R, RO, WO, Bs, EV.lit, Ag]
  refine callH [32, 33] (WInt_ok ([]) o.kind h1.1 h1.2 (by first | omega | (simp; done) | (simp; omega))) (by simp [Ptr, NP, I, R, RO, WO, Bs, EV.lit, Ag]) (by simp [Ptr, NP, I, R, RO, WO, Bs, EV.lit, Ag]) (by simp) (by simp [Ptr, NP, I, R, RO, WO, Bs, EV.lit, Ag]) (by simp [Wok]) ?_
  rintro y H' ⟨rfl, rfl⟩
  refine ⟨.inl (by simp [Ptr, NP, I, R, RO, WO, Bs, EV.lit, Ag]), le_ok rfl, ?_⟩
  simp [Ptr, NP, I, R, RO, WO, Bs, EV.lit, Ag]
  refine callH [32, 80] (WInt_ok (intB o.kind) o.am h2.1 h2.2 (by first | omega | (simp; done) | (simp; omega))) (by simp [Ptr, NP, I, R, RO, WO, Bs, EV.lit, Ag]) (by simp [Ptr, NP, I, R, RO, WO, Bs, EV.lit, Ag]) (by simp) (by simp [Ptr, NP, I, R, RO, WO, Bs, EV.lit, Ag]) (by simp [Wok]) ?_
  rintro y H' ⟨rfl, rfl⟩
  refine ⟨.inl (by simp [Ptr, NP, I, R, RO, WO, Bs, EV.lit, Ag]), le_ok rfl, ?_⟩
  simp [Ptr, NP, I, R, RO, WO, Bs, EV.lit, Ag]
  refine callH [32, 128] (WInt_ok (intB o.kind ++ intB o.am) o.id h3.1 h3.2 (by first | omega | (simp; done) | (simp; omega))) (by simp [Ptr, NP, I, R, RO, WO, Bs, EV.lit, Ag]) (by simp [Ptr, NP, I, R, RO, WO, Bs, EV.lit, Ag]) (by simp) (by simp [Ptr, NP, I, R, RO, WO, Bs, EV.lit, Ag]) (by simp [Wok]) ?_
  rintro y H' ⟨rfl, rfl⟩
  refine ⟨.inl (by simp [Ptr, NP, I, R, RO, WO, Bs, EV.lit, Ag]), le_ok rfl, ?_⟩
  simp [Ptr, NP, I, R, RO, WO, Bs, EV.lit, Ag]
  refine callH [32, 176] (WInt_ok (intB o.kind ++ intB o.am ++ intB o.id) o.pay.id h4.1 h4.2 (by first | omega | (simp; done) | (simp; omega))) (by simp [Ptr, NP, I, R, RO, WO, Bs, EV.lit, Ag]) (by simp [Ptr, NP, I, R, RO, WO, Bs, EV.lit, Ag]) (by simp) (by simp [Ptr, NP, I, R, RO, WO, Bs, EV.lit, Ag]) (by simp [Wok]) ?_
  rintro y H' ⟨rfl, rfl⟩
  refine ⟨.inl (by simp [Ptr, NP, I, R, RO, WO, Bs, EV.lit, Ag]), le_ok rfl, ?_⟩
  simp [Ptr, NP, I, R, RO, WO, Bs, EV.lit, Ag]
  refine callH [32, 272] (WInt_ok (intB o.kind ++ intB o.am ++ intB o.id ++ intB o.pay.id) o.pay.fr h5.1 h5.2 (by first | omega | (simp; done) | (simp; omega))) (by simp [Ptr, NP, I, R, RO, WO, Bs, EV.lit, Ag]) (by simp [Ptr, NP, I, R, RO, WO, Bs, EV.lit, Ag]) (by simp) (by simp [Ptr, NP, I, R, RO, WO, Bs, EV.lit, Ag]) (by simp [Wok]) ?_
  rintro y H' ⟨rfl, rfl⟩
  refine ⟨.inl (by simp [Ptr, NP, I, R, RO, WO, Bs, EV.lit, Ag]), le_ok rfl, ?_⟩
  simp [Ptr, NP, I, R, RO, WO, Bs, EV.lit, Ag]
  refine callH [32, 336] (WInt_ok (intB o.kind ++ intB o.am ++ intB o.id ++ intB o.pay.id ++ intB o.pay.fr) o.pay.am h6.1 h6.2 (by first | omega | (simp; done) | (simp; omega))) (by simp [Ptr, NP, I, R, RO, WO, Bs, EV.lit, Ag]) (by simp [Ptr, NP, I, R, RO, WO, Bs, EV.lit, Ag]) (by simp) (by simp [Ptr, NP, I, R, RO, WO, Bs, EV.lit, Ag]) (by simp [Wok]) ?_
  rintro y H' ⟨rfl, rfl⟩
  refine ⟨.inl (by simp [Ptr, NP, I, R, RO, WO, Bs, EV.lit, Ag]), le_ok rfl, ?_⟩
  simp [Ptr, NP, I, R, RO, WO, Bs, EV.lit, Ag]
  refine callH [32, 400] (WInt_ok (intB o.kind ++ intB o.am ++ intB o.id ++ intB o.pay.id ++ intB o.pay.fr ++ intB o.pay.am) o.pay.af h7.1 h7.2 (by first | omega | (simp; done) | (simp; omega))) (by simp [Ptr, NP, I, R, RO, WO, Bs, EV.lit, Ag]) (by simp [Ptr, NP, I, R, RO, WO, Bs, EV.lit, Ag]) (by simp) (by simp [Ptr, NP, I, R, RO, WO, Bs, EV.lit, Ag]) (by simp [Wok]) ?_
  rintro y H' ⟨rfl, rfl⟩
  refine ⟨.inl (by simp [Ptr, NP, I, R, RO, WO, Bs, EV.lit, Ag]), le_ok rfl, ?_⟩
  simp [WO, RO, Ptr, h8, t32, hcn]
  refine callH [32, 464] (WHash_ok (intB o.kind ++ intB o.am ++ intB o.id ++ intB o.pay.id ++ intB o.pay.fr ++ intB o.pay.am ++ intB o.pay.af) o.pay.lock (by simp; omega) h8) (by simp [Ptr, NP, I, R, RO, WO, Bs, EV.lit, Ag, h8]) (by simp [Ptr, NP, I, R, RO, WO, Bs, EV.lit, Ag, h8]) (by simp) (by simp [Ptr, NP, I, R, RO, WO, Bs, EV.lit, Ag, h8]) (by simp [Wok]) ?_
  rintro y H' ⟨rfl, rfl⟩
  refine ⟨.inl (by simp [Ptr, NP, I, R, RO, WO, Bs, EV.lit, Ag, h8]), le_ok rfl, ?_⟩
  simp [WO, RO, Ptr, h8, t32, hcn]
  refine callH [32, 544] (WBytes_ok (intB o.kind ++ intB o.am ++ intB o.id ++ intB o.pay.id ++ intB o.pay.fr ++ intB o.pay.am ++ intB o.pay.af ++ o.pay.lock) o.sec (by simp; omega) (by omega)) (by simp [Ptr, NP, I, R, RO, WO, Bs, EV.lit, Ag, h8]) (by simp [Ptr, NP, I, R, RO, WO, Bs, EV.lit, Ag, h8]) (by simp) (by simp [Ptr, NP, I, R, RO, WO, Bs, EV.lit, Ag, h8]) (by simp [Wok]) ?_
  rintro y H' ⟨rfl, rfl⟩
  refine ⟨.inl (by simp [Ptr, NP, I, R, RO, WO, Bs, EV.lit, Ag, h8]), le_ok rfl, ?_⟩
  simp [Ptr, NP, I, R, RO, WO, Bs, EV.lit, Ag, h8]
  refine callH [32, 592] (WDone_ok (intB o.kind ++ intB o.am ++ intB o.id ++ intB o.pay.id ++ intB o.pay.fr ++ intB o.pay.am ++ intB o.pay.af ++ o.pay.lock ++ bytesB o.sec) (by simp only [encO] at hlen; omega)) (by simp [Ptr, NP, I, R, RO, WO, Bs, EV.lit, Ag, h8]) (by simp [Ptr, NP, I, R, RO, WO, Bs, EV.lit, Ag, h8]) (by simp) (by simp [Ptr, NP, I, R, RO, WO, Bs, EV.lit, Ag, h8]) (by simp [Wok]) ?_
  rintro y H' ⟨rfl, rfl⟩
  refine ⟨.inl (by simp [Ptr, NP, I, R, RO, WO, Bs, EV.lit, Ag, h8]), le_ok rfl, ?_⟩
  simp [R, RO, WO]
  refine finW _ (weak_frz (o := 608) (ty := 5) (es := 1) (xs := bsv (intB o.kind ++ (intB o.am ++ (intB o.id ++ (intB o.pay.id ++ (intB o.pay.fr ++ (intB o.pay.am ++ (intB o.pay.af ++ (o.pay.lock ++ bytesB o.sec))))))))) rfl) ?_
  exact fin [] (by decide) rfl rfl rfl ⟨rfl, by simp [Bs, encO, List.take_of_length_le]⟩

set_option maxHeartbeats 4000000 in
theorem REncodeOp_ok (o : WOp) (ho : o.ok) : ECalls Tryd.prog 19 [WV o] [] fun y H' => H' = [] ∧ y = Bs (encO o) := by
  have hlen := encO_len ho
  obtain ⟨h1, h2, h3, ⟨h4, h5, h6, h7, h8⟩, h9⟩ := ho
  have l1 := intB_len9 h1
  have l2 := intB_len9 h2
  have l3 := intB_len9 h3
  have l4 := intB_len9 h4
  have l5 := intB_len9 h5
  have l6 := intB_len9 h6
  have l7 := intB_len9 h7
  have t32 : o.pay.lock.take 32 = o.pay.lock := List.take_of_length_le (by omega)
  have hcn : hc ([] : List UInt8) = [] := rfl
  refine ecalls k_REncodeOp ?_
  simp [c_REncodeOp, WV, wopC]
  refine call0 (RInt_nil o.kind h1.1 h1.2) (by simp [I]) ?_
  rintro y H' ⟨rfl, rfl⟩
  refine ⟨.inl (by simp), le_ok rfl, ?_⟩
  simp [R, RO]
  refine call0 (RInt_ok (intB o.kind) o.am h2.1 h2.2 (by first | omega | (simp; done) | (simp; omega))) (by simp [I, Bs, Ag, h8, t32, hcn, List.take_of_length_le]) ?_
  rintro y H' ⟨rfl, rfl⟩
  refine ⟨.inr ⟨rfl, by simp [RO, bsv, cb]⟩, le_ok rfl, ?_⟩
  simp [R, RO, h8, t32, hcn]
  refine call0 (RInt_ok (intB o.kind ++ intB o.am) o.id h3.1 h3.2 (by first | omega | (simp; done) | (simp; omega))) (by simp [I, Bs, Ag, h8, t32, hcn, List.take_of_length_le]) ?_
  rintro y H' ⟨rfl, rfl⟩
  refine ⟨.inr ⟨rfl, by simp [RO, bsv, cb]⟩, le_ok rfl, ?_⟩
  simp [R, RO, h8, t32, hcn]
  refine call0 (RInt_ok (intB o.kind ++ (intB o.am ++ intB o.id)) o.pay.id h4.1 h4.2 (by first | omega | (simp; done) | (simp; omega))) (by simp [I, Bs, Ag, h8, t32, hcn, List.take_of_length_le]) ?_
  rintro y H' ⟨rfl, rfl⟩
  refine ⟨.inr ⟨rfl, by simp [RO, bsv, cb]⟩, le_ok rfl, ?_⟩
  simp [R, RO, h8, t32, hcn]
  refine call0 (RInt_ok (intB o.kind ++ (intB o.am ++ (intB o.id ++ intB o.pay.id))) o.pay.fr h5.1 h5.2 (by first | omega | (simp; done) | (simp; omega))) (by simp [I, Bs, Ag, h8, t32, hcn, List.take_of_length_le]) ?_
  rintro y H' ⟨rfl, rfl⟩
  refine ⟨.inr ⟨rfl, by simp [RO, bsv, cb]⟩, le_ok rfl, ?_⟩
  simp [R, RO, h8, t32, hcn]
  refine call0 (RInt_ok (intB o.kind ++ (intB o.am ++ (intB o.id ++ (intB o.pay.id ++ intB o.pay.fr)))) o.pay.am h6.1 h6.2 (by first | omega | (simp; done) | (simp; omega))) (by simp [I, Bs, Ag, h8, t32, hcn, List.take_of_length_le]) ?_
  rintro y H' ⟨rfl, rfl⟩
  refine ⟨.inr ⟨rfl, by simp [RO, bsv, cb]⟩, le_ok rfl, ?_⟩
  simp [R, RO, h8, t32, hcn]
  refine call0 (RInt_ok (intB o.kind ++ (intB o.am ++ (intB o.id ++ (intB o.pay.id ++ (intB o.pay.fr ++ intB o.pay.am))))) o.pay.af h7.1 h7.2 (by first | omega | (simp; done) | (simp; omega))) (by simp [I, Bs, Ag, h8, t32, hcn, List.take_of_length_le]) ?_
  rintro y H' ⟨rfl, rfl⟩
  refine ⟨.inr ⟨rfl, by simp [RO, bsv, cb]⟩, le_ok rfl, ?_⟩
  simp [R, RO, h8, t32, hcn]
  refine call0 (RHash_ok (intB o.kind ++ (intB o.am ++ (intB o.id ++ (intB o.pay.id ++ (intB o.pay.fr ++ (intB o.pay.am ++ intB o.pay.af)))))) o.pay.lock (by simp; omega) h8) (by simp [I, Bs, Ag, h8, t32, hcn, List.take_of_length_le]) ?_
  rintro y H' ⟨rfl, rfl⟩
  refine ⟨.inr ⟨rfl, by simp [RO, bsv, cb]⟩, le_ok rfl, ?_⟩
  simp [R, RO, h8, t32, hcn]
  refine call0 (RBytes_ok (intB o.kind ++ (intB o.am ++ (intB o.id ++ (intB o.pay.id ++ (intB o.pay.fr ++ (intB o.pay.am ++ (intB o.pay.af ++ o.pay.lock))))))) o.sec (by simp; omega) (by omega)) (by simp [I, Bs, Ag, h8, t32, hcn, List.take_of_length_le]) ?_
  rintro y H' ⟨rfl, rfl⟩
  refine ⟨.inr ⟨rfl, by simp [RO, bsv, cb]⟩, le_ok rfl, ?_⟩
  simp [R, RO, h8, t32, hcn]

  refine finW _ (weak_frz (o := 592) (ty := 5) (es := 1) (xs := bsv (intB o.kind ++ (intB o.am ++ (intB o.id ++ (intB o.pay.id ++ (intB o.pay.fr ++ (intB o.pay.am ++ (intB o.pay.af ++ (o.pay.lock ++ bytesB o.sec))))))))) rfl) ?_
  exact fin [] (by decide) rfl rfl rfl ⟨rfl, by simp [Bs, encO, h8, List.take_of_length_le]⟩

end Go.Proofs.YtpilpjameifcfaaDoor
