import Derived.Test.YtbbcofojjgofmaaEnc3
import Derived.Test.YtbbcofojjgofmaaEnc5
namespace Go.Proofs.Ytbbcofojjgofmaa
open Go Go.EW
set_option linter.unusedSimpArgs false

@[simp] def l_lay_1 (_ : Unit) : List EOp := [⟨0, (some 3), none, (.q (.box 30 (.t 1))), []⟩, ⟨1, (some 4), none, (.q (.mov (.k (.pointer none)))), []⟩]
@[simp] def b_lay_2 (_ : Unit) : EB := reg0 (hid l_lay_1) 2
@[simp] def l_lay_3 (_ : Unit) : List EOp := [⟨0, (some 5), none, (.q (.fad 0 (.t 3))), []⟩, ⟨1, (some 6), none, (.q (.ldc (.t 5))), []⟩, ⟨2, (some 7), none, (.q (.cnv .u64 (.t 6))), []⟩, ⟨3, (some 8), none, (.q (.bin .rem (.t 7) (.k (.int .u64 4)))), []⟩, ⟨4, (some 9), none, (.q (.cnv .i64 (.t 8))), []⟩]
@[simp] def b_lay_4 (_ : Unit) : EB := reg0 (hid l_lay_3) 5
@[simp] def l_lay_5 (_ : Unit) : List EOp := [⟨0, (some 11), none, (.q (.bin .eql (.t 9) (.k (.int .i64 0)))), []⟩, ⟨1, (some 10), none, (.q (.mov (.t 11))), []⟩]
@[simp] def b_lay_6 (_ : Unit) : EB := reg0 (hid l_lay_5) 2
@[simp] def l_lay_7 (_ : Unit) : List EOp := [⟨0, (some 12), none, (.q (.mov (.t 0))), []⟩, ⟨1, (some 13), none, (.q (.fad 1 (.t 3))), []⟩, ⟨2, (some 14), none, (.q (.ldc (.t 13))), []⟩, ⟨3, (some 15), none, (.q (.cnv .u64 (.t 14))), []⟩, ⟨4, (some 16), none, (.call 19 [(.t 12), (.t 15)]), []⟩, ⟨5, (some 4), none, (.q (.mov (.t 16))), []⟩]
@[simp] def b_lay_8 (_ : Unit) : EB := reg0 (hid l_lay_7) 6
@[simp] def b_lay_9 (_ : Unit) : EB := .seq (hid b_lay_8) .ret
@[simp] def l_lay_10 (_ : Unit) : List EOp := [⟨0, (some 18), none, (.q (.bin .eql (.t 9) (.k (.int .i64 1)))), []⟩, ⟨1, (some 17), none, (.q (.mov (.t 18))), []⟩]
@[simp] def b_lay_11 (_ : Unit) : EB := reg0 (hid l_lay_10) 2
@[simp] def l_lay_12 (_ : Unit) : List EOp := [⟨0, (some 19), none, (.q (.mov (.t 0))), []⟩, ⟨1, (some 20), none, (.q (.fad 1 (.t 3))), []⟩, ⟨2, (some 21), none, (.q (.ldc (.t 20))), []⟩, ⟨3, (some 22), none, (.call 20 [(.t 19), (.t 21)]), []⟩, ⟨4, (some 4), none, (.q (.mov (.t 22))), []⟩]
@[simp] def b_lay_13 (_ : Unit) : EB := reg0 (hid l_lay_12) 5
@[simp] def b_lay_14 (_ : Unit) : EB := .seq (hid b_lay_13) .ret
@[simp] def l_lay_15 (_ : Unit) : List EOp := [⟨0, (some 24), none, (.q (.bin .eql (.t 9) (.k (.int .i64 2)))), []⟩, ⟨1, (some 23), none, (.q (.mov (.t 24))), []⟩]
@[simp] def b_lay_16 (_ : Unit) : EB := reg0 (hid l_lay_15) 2
@[simp] def l_lay_17 (_ : Unit) : List EOp := [⟨0, (some 25), none, (.q (.mov (.t 0))), []⟩, ⟨1, (some 26), none, (.q (.fad 2 (.t 3))), []⟩, ⟨2, (some 27), none, (.q (.ldc (.t 26))), []⟩, ⟨3, (some 28), none, (.call 21 [(.t 25), (.t 27)]), []⟩, ⟨4, (some 4), none, (.q (.mov (.t 28))), []⟩]
@[simp] def b_lay_18 (_ : Unit) : EB := reg0 (hid l_lay_17) 5
@[simp] def b_lay_19 (_ : Unit) : EB := .seq (hid b_lay_18) .ret
@[simp] def b_lay_20 (_ : Unit) : EB := .cond (.t 23) (hid b_lay_19) .skip
@[simp] def b_lay_21 (_ : Unit) : EB := .seq (hid b_lay_16) (hid b_lay_20)
@[simp] def b_lay_22 (_ : Unit) : EB := .cond (.t 17) (hid b_lay_14) (hid b_lay_21)
@[simp] def b_lay_23 (_ : Unit) : EB := .seq (hid b_lay_11) (hid b_lay_22)
@[simp] def b_lay_24 (_ : Unit) : EB := .cond (.t 10) (hid b_lay_9) (hid b_lay_23)
@[simp] def b_lay_25 (_ : Unit) : EB := .seq (hid b_lay_6) (hid b_lay_24)
@[simp] def b_lay_26 (_ : Unit) : EB := .block 0 (hid b_lay_25)
@[simp] def b_lay_27 (_ : Unit) : EB := .seq (hid b_lay_4) (hid b_lay_26)
@[simp] def l_lay_28 (_ : Unit) : List EOp := [⟨0, (some 29), none, (.q (.mov (.t 0))), []⟩, ⟨1, (some 30), none, (.q (.fad 3 (.t 3))), []⟩, ⟨2, (some 31), none, (.q (.lda 32 (.t 30))), []⟩, ⟨3, (some 32), none, (.call 22 [(.t 29), (.t 31)]), []⟩, ⟨4, (some 4), none, (.q (.mov (.t 32))), []⟩]
@[simp] def b_lay_29 (_ : Unit) : EB := reg0 (hid l_lay_28) 5
@[simp] def b_lay_30 (_ : Unit) : EB := .seq (hid b_lay_29) .ret
@[simp] def b_lay_31 (_ : Unit) : EB := .seq (hid b_lay_27) (hid b_lay_30)
@[simp] def b_lay_32 (_ : Unit) : EB := .seq (hid b_lay_2) (hid b_lay_31)
def c_lay : EB × List QOp × Nat := ((hid b_lay_32), [(.mov (.t 4))], 33)
theorem k_lay : cfun Try.prog 7 = some c_lay := by kernel_rfl

@[simp] def l_laid_1 (_ : Unit) : List EOp := [⟨0, (some 3), none, (.q (.box 30 (.t 1))), []⟩, ⟨1, (some 4), none, (.q (.mov (.k (.slice none 0 0)))), []⟩]
@[simp] def b_laid_2 (_ : Unit) : EB := reg0 (hid l_laid_1) 2
@[simp] def l_laid_3 (_ : Unit) : List EOp := [⟨0, (some 5), none, (.q (.fad 0 (.t 3))), []⟩, ⟨1, (some 6), none, (.q (.ldc (.t 5))), []⟩, ⟨2, (some 7), none, (.q (.cnv .u64 (.t 6))), []⟩, ⟨3, (some 8), none, (.q (.bin .rem (.t 7) (.k (.int .u64 4)))), []⟩, ⟨4, (some 9), none, (.q (.cnv .i64 (.t 8))), []⟩]
@[simp] def b_laid_4 (_ : Unit) : EB := reg0 (hid l_laid_3) 5
@[simp] def l_laid_5 (_ : Unit) : List EOp := [⟨0, (some 11), none, (.q (.bin .eql (.t 9) (.k (.int .i64 0)))), []⟩, ⟨1, (some 10), none, (.q (.mov (.t 11))), []⟩]
@[simp] def b_laid_6 (_ : Unit) : EB := reg0 (hid l_laid_5) 2
@[simp] def l_laid_7 (_ : Unit) : List EOp := [⟨0, (some 12), none, (.q (.mov (.t 0))), []⟩, ⟨1, (some 13), none, (.q (.fad 1 (.t 3))), []⟩, ⟨2, (some 14), none, (.q (.ldc (.t 13))), []⟩, ⟨3, (some 15), none, (.q (.cnv .u64 (.t 14))), []⟩, ⟨4, (some 16), none, (.call 23 [(.t 12), (.t 15)]), []⟩, ⟨5, (some 4), none, (.q (.mov (.t 16))), []⟩]
@[simp] def b_laid_8 (_ : Unit) : EB := reg0 (hid l_laid_7) 6
@[simp] def b_laid_9 (_ : Unit) : EB := .seq (hid b_laid_8) .ret
@[simp] def l_laid_10 (_ : Unit) : List EOp := [⟨0, (some 18), none, (.q (.bin .eql (.t 9) (.k (.int .i64 1)))), []⟩, ⟨1, (some 17), none, (.q (.mov (.t 18))), []⟩]
@[simp] def b_laid_11 (_ : Unit) : EB := reg0 (hid l_laid_10) 2
@[simp] def l_laid_12 (_ : Unit) : List EOp := [⟨0, (some 19), none, (.q (.mov (.t 0))), []⟩, ⟨1, (some 20), none, (.q (.fad 1 (.t 3))), []⟩, ⟨2, (some 21), none, (.q (.ldc (.t 20))), []⟩, ⟨3, (some 22), none, (.call 24 [(.t 19), (.t 21)]), []⟩, ⟨4, (some 4), none, (.q (.mov (.t 22))), []⟩]
@[simp] def b_laid_13 (_ : Unit) : EB := reg0 (hid l_laid_12) 5
@[simp] def b_laid_14 (_ : Unit) : EB := .seq (hid b_laid_13) .ret
@[simp] def l_laid_15 (_ : Unit) : List EOp := [⟨0, (some 24), none, (.q (.bin .eql (.t 9) (.k (.int .i64 2)))), []⟩, ⟨1, (some 23), none, (.q (.mov (.t 24))), []⟩]
@[simp] def b_laid_16 (_ : Unit) : EB := reg0 (hid l_laid_15) 2
@[simp] def l_laid_17 (_ : Unit) : List EOp := [⟨0, (some 25), none, (.q (.mov (.t 0))), []⟩, ⟨1, (some 26), none, (.q (.fad 2 (.t 3))), []⟩, ⟨2, (some 27), none, (.q (.ldc (.t 26))), []⟩, ⟨3, (some 28), none, (.call 25 [(.t 25), (.t 27)]), []⟩, ⟨4, (some 4), none, (.q (.mov (.t 28))), []⟩]
@[simp] def b_laid_18 (_ : Unit) : EB := reg0 (hid l_laid_17) 5
@[simp] def b_laid_19 (_ : Unit) : EB := .seq (hid b_laid_18) .ret
@[simp] def b_laid_20 (_ : Unit) : EB := .cond (.t 23) (hid b_laid_19) .skip
@[simp] def b_laid_21 (_ : Unit) : EB := .seq (hid b_laid_16) (hid b_laid_20)
@[simp] def b_laid_22 (_ : Unit) : EB := .cond (.t 17) (hid b_laid_14) (hid b_laid_21)
@[simp] def b_laid_23 (_ : Unit) : EB := .seq (hid b_laid_11) (hid b_laid_22)
@[simp] def b_laid_24 (_ : Unit) : EB := .cond (.t 10) (hid b_laid_9) (hid b_laid_23)
@[simp] def b_laid_25 (_ : Unit) : EB := .seq (hid b_laid_6) (hid b_laid_24)
@[simp] def b_laid_26 (_ : Unit) : EB := .block 0 (hid b_laid_25)
@[simp] def b_laid_27 (_ : Unit) : EB := .seq (hid b_laid_4) (hid b_laid_26)
@[simp] def l_laid_28 (_ : Unit) : List EOp := [⟨0, (some 29), none, (.q (.mov (.t 0))), []⟩, ⟨1, (some 30), none, (.q (.fad 3 (.t 3))), []⟩, ⟨2, (some 31), none, (.q (.lda 32 (.t 30))), []⟩, ⟨3, (some 32), none, (.call 26 [(.t 29), (.t 31)]), []⟩, ⟨4, (some 4), none, (.q (.mov (.t 32))), []⟩]
@[simp] def b_laid_29 (_ : Unit) : EB := reg0 (hid l_laid_28) 5
@[simp] def b_laid_30 (_ : Unit) : EB := .seq (hid b_laid_29) .ret
@[simp] def b_laid_31 (_ : Unit) : EB := .seq (hid b_laid_27) (hid b_laid_30)
@[simp] def b_laid_32 (_ : Unit) : EB := .seq (hid b_laid_2) (hid b_laid_31)
def c_laid : EB × List QOp × Nat := ((hid b_laid_32), [(.mov (.t 4))], 33)
theorem k_laid : cfun Try.prog 8 = some c_laid := by kernel_rfl


/-- A thing that is laid. -/
structure Th where
  kind : Int
  n : Int
  b : List UInt8
  h : List UInt8
def Th.ok (x : Th) : Prop := -9223372036854775808 ≤ x.kind ∧ x.kind ≤ 9223372036854775807 ∧ -9223372036854775808 ≤ x.n ∧ x.n ≤ 9223372036854775807 ∧ x.b.length ≤ 10000000 ∧ x.h.length = 32
def thC (x : Th) : List EC := .fz (.lit (.int .i64 x.kind)) :: .fz (.lit (.int .i64 x.n)) :: .fz (.sl 1 (bsv x.b)) :: hc x.h
def u64n (n : Int) : Nat := (n % 18446744073709551616).toNat
def kd (x : Th) : Nat := (x.kind % 4).toNat
def layB (x : Th) : List UInt8 := if kd x = 0 then uintB (u64n x.n) else if kd x = 1 then intB x.n else if kd x = 2 then bytesB x.b else x.h
theorem u64n_lt (n : Int) : u64n n < 18446744073709551616 := by unfold u64n; omega
theorem wrap_u64n (n : Int) : IntKind.u64.wrap n = (u64n n : Int) := by
  simp [IntKind.wrap, IntKind.bits, IntKind.signed, u64n]
  omega
theorem kd_lt (x : Th) : kd x < 4 := by unfold kd; omega
theorem kd_eq (x : Th) : IntKind.i64.wrap ((IntKind.u64.wrap x.kind).tmod 4) = (kd x : Int) := by
  rw [wrap_u64n, Int.tmod_eq_emod_of_nonneg (by omega), wrap_i64 (by omega) (by omega)]
  unfold u64n kd
  omega

set_option maxHeartbeats 1000000 in
theorem lay_ok (bs : List UInt8) (x : Th) (hx : x.ok) (hb : bs.length ≤ 900000000) :
    ECalls Try.prog 7 [Ptr 0, .v (.agg (thC x))] [WO 1 bs, RO bs] fun y H' => H' = [some (WO 2 (bs ++ layB x)), none, some (RO (bs ++ layB x))] ∧ y = Ptr 0 := by
  obtain ⟨h1, h2, h3, h4, h5, h6⟩ := hx
  have hkd := kd_eq x
  have hkl := kd_lt x
  have ht : x.h.take 32 = x.h := List.take_of_length_le (by omega)
  refine ecalls k_lay ?_
  simp [c_lay, thC, Ptr, hkd]
  refine alt (fun k0 => ?_) (fun k0 => ?_)
  · have hl : layB x = uintB (u64n x.n) := by rw [layB, if_pos (by omega)]
    simp [wrap_u64n]
    refine callH [0, 1] (WUint_ok bs (u64n x.n) (u64n_lt _) hb) (by simp [Ptr, I]) (by simp [WO, RO]) (by simp) (by simp [WO]) (by simp) ?_
    rintro y H' ⟨rfl, rfl⟩
    refine ⟨.inl rfl, le_ok rfl, ?_⟩
    simp [Ptr, WO, RO]
    exact fin [210] (by decide) rfl rfl rfl ⟨by rw [hl], rfl⟩
  simp [hkd]
  refine alt (fun k1 => ?_) (fun k1 => ?_)
  · have hl : layB x = intB x.n := by rw [layB, if_neg (by omega), if_pos (by omega)]
    simp
    refine callH [0, 1] (WInt_ok bs x.n h3 h4 hb) (by simp [Ptr, I]) (by simp [WO, RO]) (by simp) (by simp [WO]) (by simp) ?_
    rintro y H' ⟨rfl, rfl⟩
    refine ⟨.inl rfl, le_ok rfl, ?_⟩
    simp [Ptr, WO, RO]
    exact fin [226] (by decide) rfl rfl rfl ⟨by rw [hl], rfl⟩
  simp [hkd]
  refine alt (fun k2 => ?_) (fun k2 => ?_)
  · have hl : layB x = bytesB x.b := by rw [layB, if_neg (by omega), if_neg (by omega), if_pos (by omega)]
    simp
    refine callH [0, 1] (WBytes_ok bs x.b hb h5) (by simp [Ptr, Bs]) (by simp [WO, RO]) (by simp) (by simp [WO]) (by simp) ?_
    rintro y H' ⟨rfl, rfl⟩
    refine ⟨.inl rfl, le_ok rfl, ?_⟩
    simp [Ptr, WO, RO]
    exact fin [258] (by decide) rfl rfl rfl ⟨by rw [hl], rfl⟩
  · have hl : layB x = x.h := by rw [layB, if_neg (by omega), if_neg (by omega), if_neg (by omega)]
    simp [ht]
    refine ⟨by omega, callH [0, 1] (WHash_ok bs x.h hb h6) (by simp [Ptr, Ag]) (by simp [WO, RO]) (by simp) (by simp [WO]) (by simp) ?_⟩
    rintro y H' ⟨rfl, rfl⟩
    refine ⟨.inl (by simp), le_ok rfl, ?_⟩
    simp [Ptr, WO, RO]
    exact fin [258] (by decide) rfl rfl rfl ⟨by rw [hl], rfl⟩

set_option maxHeartbeats 1000000 in
theorem lay_nil (x : Th) (hx : x.ok) :
    ECalls Try.prog 7 [NP, .v (.agg (thC x))] [] fun y H' => H' = [] ∧ y = NP := by
  obtain ⟨h1, h2, h3, h4, h5, h6⟩ := hx
  have hkd := kd_eq x
  have hkl := kd_lt x
  have ht : x.h.take 32 = x.h := List.take_of_length_le (by omega)
  refine ecalls k_lay ?_
  simp [c_lay, thC, NP, hkd]
  refine alt (fun k0 => ?_) (fun k0 => ?_)
  · simp [wrap_u64n]
    refine call0 (WUint_nil (u64n x.n)) (by simp [NP, I]) ?_
    rintro y H' ⟨rfl, rfl⟩
    refine ⟨.inl rfl, le_ok rfl, ?_⟩
    simp [NP]
    exact fin [] (by decide) rfl rfl rfl ⟨rfl, rfl⟩
  simp [hkd]
  refine alt (fun k1 => ?_) (fun k1 => ?_)
  · simp
    refine call0 (WInt_nil x.n) (by simp [NP, I]) ?_
    rintro y H' ⟨rfl, rfl⟩
    refine ⟨.inl rfl, le_ok rfl, ?_⟩
    simp [NP]
    exact fin [] (by decide) rfl rfl rfl ⟨rfl, rfl⟩
  simp [hkd]
  refine alt (fun k2 => ?_) (fun k2 => ?_)
  · simp
    refine call0 (WBytes_nil (Bs x.b)) (by simp [NP, Bs]) ?_
    rintro y H' ⟨rfl, rfl⟩
    refine ⟨.inl rfl, le_ok rfl, ?_⟩
    simp [NP]
    exact fin [] (by decide) rfl rfl rfl ⟨rfl, rfl⟩
  · simp [ht]
    refine ⟨by omega, call0 (WHash_nil x.h) (by simp [NP, Ag]) ?_⟩
    rintro y H' ⟨rfl, rfl⟩
    refine ⟨.inl (by simp), le_ok rfl, ?_⟩
    simp [NP]
    exact fin [] (by decide) rfl rfl rfl ⟨rfl, rfl⟩

set_option maxHeartbeats 1000000 in
theorem laid_ok (b : List UInt8) (x : Th) (hx : x.ok) (hb : b.length ≤ 900000000) :
    ECalls Try.prog 8 [Bs b, .v (.agg (thC x))] [] fun y H' => H' = [some (RO (b ++ layB x))] ∧ y = R 0 (b ++ layB x) := by
  obtain ⟨h1, h2, h3, h4, h5, h6⟩ := hx
  have hkd := kd_eq x
  have hkl := kd_lt x
  have ht : x.h.take 32 = x.h := List.take_of_length_le (by omega)
  refine ecalls k_laid ?_
  simp [c_laid, thC, Bs, hkd]
  refine alt (fun k0 => ?_) (fun k0 => ?_)
  · have hl : layB x = uintB (u64n x.n) := by rw [layB, if_pos (by omega)]
    simp [wrap_u64n]
    refine call0 (RUint_ok b (u64n x.n) (u64n_lt _) hb) (by simp [Bs, I]) ?_
    rintro y H' ⟨rfl, rfl⟩
    refine ⟨.inl rfl, le_ok rfl, ?_⟩
    simp [R, RO]
    exact fin [208] (by decide) rfl rfl rfl ⟨by rw [hl], by rw [hl]⟩
  simp [hkd]
  refine alt (fun k1 => ?_) (fun k1 => ?_)
  · have hl : layB x = intB x.n := by rw [layB, if_neg (by omega), if_pos (by omega)]
    simp
    refine call0 (RInt_ok b x.n h3 h4 hb) (by simp [Bs, I]) ?_
    rintro y H' ⟨rfl, rfl⟩
    refine ⟨.inl rfl, le_ok rfl, ?_⟩
    simp [R, RO]
    exact fin [224] (by decide) rfl rfl rfl ⟨by rw [hl], by rw [hl]⟩
  simp [hkd]
  refine alt (fun k2 => ?_) (fun k2 => ?_)
  · have hl : layB x = bytesB x.b := by rw [layB, if_neg (by omega), if_neg (by omega), if_pos (by omega)]
    simp
    refine call0 (RBytes_ok b x.b hb h5) (by simp [Bs]) ?_
    rintro y H' ⟨rfl, rfl⟩
    refine ⟨.inl rfl, le_ok rfl, ?_⟩
    simp [R, RO]
    exact fin [256] (by decide) rfl rfl rfl ⟨by rw [hl], by rw [hl]⟩
  · have hl : layB x = x.h := by rw [layB, if_neg (by omega), if_neg (by omega), if_neg (by omega)]
    simp [ht]
    refine ⟨by omega, call0 (RHash_ok b x.h hb h6) (by simp [Bs, Ag]) ?_⟩
    rintro y H' ⟨rfl, rfl⟩
    refine ⟨.inl (by simp), le_ok rfl, ?_⟩
    simp [R, RO]
    exact fin [256] (by decide) rfl rfl rfl ⟨by rw [hl], by rw [hl]⟩

@[simp] def l_sure_1 (_ : Unit) : List EOp := [⟨0, (some 0), none, (.q (.mov (.k (.bool false)))), []⟩]
@[simp] def b_sure_2 (_ : Unit) : EB := reg0 (hid l_sure_1) 1
@[simp] def l_sure_4 (_ : Unit) : List EOp := [⟨6, (some 8), none, (.call 9 [(.t 7)]), []⟩, ⟨7, (some 1), none, (.q (.mov (.t 8))), []⟩]
@[simp] def l_sure_3 (_ : Unit) : List EOp := ⟨0, (some 2), none, (.call 6 []), []⟩ :: ⟨1, (some 3), none, (.call 19 [(.t 2), (.k (.int .u64 300))]), []⟩ :: ⟨2, (some 4), none, (.call 20 [(.t 3), (.k (.int .i64 (-1)))]), []⟩ :: ⟨3, (some 5), none, (.q (.bsr 5 1 [(.int .u8 0)] 1 [(0, (.k (.int .u8 97)))])), []⟩ :: ⟨4, (some 6), none, (.mrk (.t 5)), []⟩ :: ⟨5, (some 7), none, (.call 21 [(.t 4), (.t 6)]), []⟩ :: hid l_sure_4
@[simp] def b_sure_5 (_ : Unit) : EB := reg0 (hid l_sure_3) 8
@[simp] def l_sure_7 (_ : Unit) : List EOp := [⟨6, (some 15), (some (12, true)), (.call 14 [(.t 14)]), []⟩, ⟨7, (some 16), (some (12, true)), (.q (.bin .eql (.t 15) (.k (.int .i64 7)))), []⟩, ⟨8, (some 17), none, (.q (.pick (.t 12) (.t 16) (.k (.bool false)))), []⟩, ⟨9, (some 0), none, (.q (.mov (.t 17))), []⟩]
@[simp] def l_sure_6 (_ : Unit) : List EOp := ⟨0, (some 9), none, (.q (.mov (.t 1))), []⟩ :: ⟨1, (some 10), none, (.q (.b2s (.t 9))), []⟩ :: ⟨2, (some 11), none, (.q (.bin .eql (.t 10) (.k (.string ⟨#[2, 1, 44, 127, 97, 0, 0]⟩)))), []⟩ :: ⟨3, (some 12), none, (.q (.mov (.t 11))), []⟩ :: ⟨4, (some 13), (some (12, true)), (.q (.bsl 1 [(.int .u8 0)] 2 [(0, (.k (.int .u8 129))), (1, (.k (.int .u8 7)))])), []⟩ :: ⟨5, (some 14), (some (12, true)), (.call 12 [(.t 13)]), []⟩ :: hid l_sure_7
@[simp] def b_sure_8 (_ : Unit) : EB := reg0 (hid l_sure_6) 10
@[simp] def b_sure_9 (_ : Unit) : EB := .seq (hid b_sure_8) .ret
@[simp] def b_sure_10 (_ : Unit) : EB := .seq (hid b_sure_5) (hid b_sure_9)
@[simp] def b_sure_11 (_ : Unit) : EB := .seq (hid b_sure_2) (hid b_sure_10)
def c_sure : EB × List QOp × Nat := ((hid b_sure_11), [(.mov (.t 0))], 18)
theorem k_sure : cfun Try.prog 10 = some c_sure := by kernel_rfl

theorem sure_ok : ECalls Try.prog 10 [] [] fun y H' => H' = [] ∧ y = .lit (.bool true) := by
  refine ecalls k_sure ?_
  simp [c_sure]
  refine call0 New_ok rfl ?_
  rintro y H' ⟨rfl, rfl⟩
  refine ⟨.inl rfl, le_ok rfl, ?_⟩
  simp [Ptr, WO, RO]
  refine callH [16, 17] (WUint_ok [] 300 (by omega) (by simp)) (by simp [Ptr, I]) (by simp [WO, RO]) (by simp) (by simp) (by simp) ?_
  rintro y H' ⟨rfl, rfl⟩
  refine ⟨.inl rfl, le_ok rfl, ?_⟩
  have e1 : uintB 300 = [2, 1, 44] := by decide
  rw [e1]
  simp [Ptr, WO, RO]
  refine callH [16, 32] (WInt_ok [2, 1, 44] (-1) (by omega) (by omega) (by simp)) (by simp [Ptr, I]) (by simp [WO, RO]) (by simp) (by simp) (by simp) ?_
  rintro y H' ⟨rfl, rfl⟩
  refine ⟨.inl rfl, le_ok rfl, ?_⟩
  have e2 : intB (-1) = [127] := by decide
  rw [e2]
  simp [Ptr, WO, RO]
  refine callH [16, 48] (WBytes_ok [2, 1, 44, 127] [97] (by simp) (by simp)) (by simp [Ptr, Bs, bsv, cb]) (by simp [WO, RO]) (by simp) (by simp) (by simp) ?_
  rintro y H' ⟨rfl, rfl⟩
  refine ⟨.inl rfl, le_ok rfl, ?_⟩
  have e3 : bytesB [97] = [97, 0, 0] := by decide
  rw [e3]
  simp [Ptr, WO, RO]
  refine callH [16, 96] (WDone_ok [2, 1, 44, 127, 97, 0, 0] (by simp)) (by simp [Ptr]) (by simp [WO, RO]) (by simp) (by simp) (by simp) ?_
  rintro y H' ⟨rfl, rfl⟩
  refine ⟨.inl rfl, le_ok rfl, ?_⟩
  have hs : (strOf [2, 1, 44, 127, 97, 0, 0]).toList = [2, 1, 44, 127, 97, 0, 0] := by rw [bytes_list]; rfl
  simp [R, WO, RO, -strOf_map, hs]
  refine call0 (Read_ok [129, 7]) (by simp [Bs, bsv, cb]) ?_
  rintro y H' ⟨rfl, rfl⟩
  refine ⟨.inl (by simp), le_ok rfl, ?_⟩
  simp [Ptr, RdO]
  refine callH [224] RdInt_sure (by simp [Ptr]) (by simp [RdO]) (by simp) (by simp) (by simp) ?_
  rintro y H' ⟨rfl, rfl⟩
  refine ⟨.inl (by simp), le_ok rfl, ?_⟩
  simp [I, hs]
  exact fin [] (by decide) rfl rfl rfl ⟨rfl, rfl⟩

end Go.Proofs.Ytbbcofojjgofmaa
