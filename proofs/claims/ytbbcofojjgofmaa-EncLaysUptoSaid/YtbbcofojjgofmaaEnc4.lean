import Derived.Test.YtbbcofojjgofmaaEnc3
namespace Go.Proofs.Ytbbcofojjgofmaa
open Go Go.EW
set_option linter.unusedSimpArgs false

def c_lay : EB × List QOp × Nat := ((.seq (.reg [⟨0, (some 3), none, (.q (.box 30 (.t 1))), []⟩,
    ⟨1, (some 4), none, (.q (.mov (.k (.pointer none)))), []⟩] 2)
  (.seq (.seq (.reg [⟨0, (some 5), none, (.q (.fad 0 (.t 3))), []⟩,
    ⟨1, (some 6), none, (.q (.ldc (.t 5))), []⟩,
    ⟨2, (some 7), none, (.q (.cnv .u64 (.t 6))), []⟩,
    ⟨3, (some 8), none, (.q (.bin .rem (.t 7) (.k (.int .u64 4)))), []⟩,
    ⟨4, (some 9), none, (.q (.cnv .i64 (.t 8))), []⟩] 5)
  (.block 0 (.seq (.reg [⟨0, (some 11), none, (.q (.bin .eql (.t 9) (.k (.int .i64 0)))), []⟩,
    ⟨1, (some 10), none, (.q (.mov (.t 11))), []⟩] 2)
  (.cond (.t 10)
  (.seq (.reg [⟨0, (some 12), none, (.q (.mov (.t 0))), []⟩,
    ⟨1, (some 13), none, (.q (.fad 1 (.t 3))), []⟩,
    ⟨2, (some 14), none, (.q (.ldc (.t 13))), []⟩,
    ⟨3, (some 15), none, (.q (.cnv .u64 (.t 14))), []⟩,
    ⟨4, (some 16), none, (.call 19 [(.t 12), (.t 15)]), []⟩,
    ⟨5, (some 4), none, (.q (.mov (.t 16))), []⟩] 6)
  .ret)
  (.seq (.reg [⟨0, (some 18), none, (.q (.bin .eql (.t 9) (.k (.int .i64 1)))), []⟩,
    ⟨1, (some 17), none, (.q (.mov (.t 18))), []⟩] 2)
  (.cond (.t 17)
  (.seq (.reg [⟨0, (some 19), none, (.q (.mov (.t 0))), []⟩,
    ⟨1, (some 20), none, (.q (.fad 1 (.t 3))), []⟩,
    ⟨2, (some 21), none, (.q (.ldc (.t 20))), []⟩,
    ⟨3, (some 22), none, (.call 20 [(.t 19), (.t 21)]), []⟩,
    ⟨4, (some 4), none, (.q (.mov (.t 22))), []⟩] 5)
  .ret)
  (.seq (.reg [⟨0, (some 24), none, (.q (.bin .eql (.t 9) (.k (.int .i64 2)))), []⟩,
    ⟨1, (some 23), none, (.q (.mov (.t 24))), []⟩] 2)
  (.cond (.t 23)
  (.seq (.reg [⟨0, (some 25), none, (.q (.mov (.t 0))), []⟩,
    ⟨1, (some 26), none, (.q (.fad 2 (.t 3))), []⟩,
    ⟨2, (some 27), none, (.q (.ldc (.t 26))), []⟩,
    ⟨3, (some 28), none, (.call 21 [(.t 25), (.t 27)]), []⟩,
    ⟨4, (some 4), none, (.q (.mov (.t 28))), []⟩] 5)
  .ret)
  .skip))))))))
  (.seq (.reg [⟨0, (some 29), none, (.q (.mov (.t 0))), []⟩,
    ⟨1, (some 30), none, (.q (.fad 3 (.t 3))), []⟩,
    ⟨2, (some 31), none, (.q (.lda 32 (.t 30))), []⟩,
    ⟨3, (some 32), none, (.call 22 [(.t 29), (.t 31)]), []⟩,
    ⟨4, (some 4), none, (.q (.mov (.t 32))), []⟩] 5)
  .ret))), [.mov (.t 4)], 33)
theorem k_lay : cfun Try.prog 7 = some c_lay := by kernel_rfl

def c_laid : EB × List QOp × Nat := ((.seq (.reg [⟨0, (some 3), none, (.q (.box 30 (.t 1))), []⟩,
    ⟨1, (some 4), none, (.q (.mov (.k (.slice none 0 0)))), []⟩] 2)
  (.seq (.seq (.reg [⟨0, (some 5), none, (.q (.fad 0 (.t 3))), []⟩,
    ⟨1, (some 6), none, (.q (.ldc (.t 5))), []⟩,
    ⟨2, (some 7), none, (.q (.cnv .u64 (.t 6))), []⟩,
    ⟨3, (some 8), none, (.q (.bin .rem (.t 7) (.k (.int .u64 4)))), []⟩,
    ⟨4, (some 9), none, (.q (.cnv .i64 (.t 8))), []⟩] 5)
  (.block 0 (.seq (.reg [⟨0, (some 11), none, (.q (.bin .eql (.t 9) (.k (.int .i64 0)))), []⟩,
    ⟨1, (some 10), none, (.q (.mov (.t 11))), []⟩] 2)
  (.cond (.t 10)
  (.seq (.reg [⟨0, (some 12), none, (.q (.mov (.t 0))), []⟩,
    ⟨1, (some 13), none, (.q (.fad 1 (.t 3))), []⟩,
    ⟨2, (some 14), none, (.q (.ldc (.t 13))), []⟩,
    ⟨3, (some 15), none, (.q (.cnv .u64 (.t 14))), []⟩,
    ⟨4, (some 16), none, (.call 23 [(.t 12), (.t 15)]), []⟩,
    ⟨5, (some 4), none, (.q (.mov (.t 16))), []⟩] 6)
  .ret)
  (.seq (.reg [⟨0, (some 18), none, (.q (.bin .eql (.t 9) (.k (.int .i64 1)))), []⟩,
    ⟨1, (some 17), none, (.q (.mov (.t 18))), []⟩] 2)
  (.cond (.t 17)
  (.seq (.reg [⟨0, (some 19), none, (.q (.mov (.t 0))), []⟩,
    ⟨1, (some 20), none, (.q (.fad 1 (.t 3))), []⟩,
    ⟨2, (some 21), none, (.q (.ldc (.t 20))), []⟩,
    ⟨3, (some 22), none, (.call 24 [(.t 19), (.t 21)]), []⟩,
    ⟨4, (some 4), none, (.q (.mov (.t 22))), []⟩] 5)
  .ret)
  (.seq (.reg [⟨0, (some 24), none, (.q (.bin .eql (.t 9) (.k (.int .i64 2)))), []⟩,
    ⟨1, (some 23), none, (.q (.mov (.t 24))), []⟩] 2)
  (.cond (.t 23)
  (.seq (.reg [⟨0, (some 25), none, (.q (.mov (.t 0))), []⟩,
    ⟨1, (some 26), none, (.q (.fad 2 (.t 3))), []⟩,
    ⟨2, (some 27), none, (.q (.ldc (.t 26))), []⟩,
    ⟨3, (some 28), none, (.call 25 [(.t 25), (.t 27)]), []⟩,
    ⟨4, (some 4), none, (.q (.mov (.t 28))), []⟩] 5)
  .ret)
  .skip))))))))
  (.seq (.reg [⟨0, (some 29), none, (.q (.mov (.t 0))), []⟩,
    ⟨1, (some 30), none, (.q (.fad 3 (.t 3))), []⟩,
    ⟨2, (some 31), none, (.q (.lda 32 (.t 30))), []⟩,
    ⟨3, (some 32), none, (.call 26 [(.t 29), (.t 31)]), []⟩,
    ⟨4, (some 4), none, (.q (.mov (.t 32))), []⟩] 5)
  .ret))), [.mov (.t 4)], 33)
theorem k_laid : cfun Try.prog 8 = some c_laid := by kernel_rfl


/-- A thing that is laid. -/
structure Th where
  kind : Int
  n : Int
  b : List UInt8
  h : List UInt8
def Th.ok (x : Th) : Prop := -9223372036854775808 ≤ x.kind ∧ x.kind ≤ 9223372036854775807 ∧ -9223372036854775808 ≤ x.n ∧ x.n ≤ 9223372036854775807 ∧ x.b.length ≤ 10000000 ∧ x.h.length = 32
def thC (x : Th) : List EC := .fz (.lit (.int .i64 x.kind)) :: .fz (.lit (.int .i64 x.n)) :: .fz (.sl 1 (bsv x.b)) :: hc x.h
def u64n (n : Int) : Nat := (n % 18446744073709551616).toNat
def kd (x : Th) : Nat := (x.kind % 4).toNat
def layB (x : Th) : List UInt8 := if kd x = 0 then uintB (u64n x.n) else if kd x = 1 then intB x.n else if kd x = 2 then bytesB x.b else x.h
theorem u64n_lt (n : Int) : u64n n < 18446744073709551616 := by unfold u64n; omega
theorem wrap_u64n (n : Int) : IntKind.u64.wrap n = (u64n n : Int) := by
  simp [IntKind.wrap, IntKind.bits, IntKind.signed, u64n]
  omega
theorem kd_lt (x : Th) : kd x < 4 := by unfold kd; omega
theorem kd_eq (x : Th) : IntKind.i64.wrap ((IntKind.u64.wrap x.kind).tmod 4) = (kd x : Int) := by
  rw [wrap_u64n, Int.tmod_eq_emod_of_nonneg (by omega), wrap_i64 (by omega) (by omega)]
  unfold u64n kd
  omega

set_option maxHeartbeats 1000000 in
theorem lay_ok (bs : List UInt8) (x : Th) (hx : x.ok) (hb : bs.length ≤ 900000000) :
    ECalls Try.prog 7 [Ptr 0, .v (.agg (thC x))] [WO 1 bs, RO bs] fun y H' => H' = [some (WO 2 (bs ++ layB x)), none, some (RO (bs ++ layB x))] ∧ y = Ptr 0 := by
  obtain ⟨h1, h2, h3, h4, h5, h6⟩ := hx
  have hkd := kd_eq x
  have hkl := kd_lt x
  have ht : x.h.take 32 = x.h := List.take_of_length_le (by omega)
  refine ecalls k_lay ?_
  simp [c_lay, thC, Ptr, hkd]
  refine alt (fun k0 => ?_) (fun k0 => ?_)
  · have hl : layB x = uintB (u64n x.n) := by rw [layB, if_pos (by omega)]
    simp [wrap_u64n]
    refine callH [0, 1] (WUint_ok bs (u64n x.n) (u64n_lt _) hb) (by simp [Ptr, I]) (by simp [WO, RO]) (by simp) (by simp [WO]) (by simp) ?_
    rintro y H' ⟨rfl, rfl⟩
    refine ⟨.inl rfl, le_ok rfl, ?_⟩
    simp [Ptr, WO, RO]
    exact fin [210] (by decide) rfl rfl rfl ⟨by rw [hl], rfl⟩
  simp [hkd]
  refine alt (fun k1 => ?_) (fun k1 => ?_)
  · have hl : layB x = intB x.n := by rw [layB, if_neg (by omega), if_pos (by omega)]
    simp
    refine callH [0, 1] (WInt_ok bs x.n h3 h4 hb) (by simp [Ptr, I]) (by simp [WO, RO]) (by simp) (by simp [WO]) (by simp) ?_
    rintro y H' ⟨rfl, rfl⟩
    refine ⟨.inl rfl, le_ok rfl, ?_⟩
    simp [Ptr, WO, RO]
    exact fin [226] (by decide) rfl rfl rfl ⟨by rw [hl], rfl⟩
  simp [hkd]
  refine alt (fun k2 => ?_) (fun k2 => ?_)
  · have hl : layB x = bytesB x.b := by rw [layB, if_neg (by omega), if_neg (by omega), if_pos (by omega)]
    simp
    refine callH [0, 1] (WBytes_ok bs x.b hb h5) (by simp [Ptr, Bs]) (by simp [WO, RO]) (by simp) (by simp [WO]) (by simp) ?_
    rintro y H' ⟨rfl, rfl⟩
    refine ⟨.inl rfl, le_ok rfl, ?_⟩
    simp [Ptr, WO, RO]
    exact fin [258] (by decide) rfl rfl rfl ⟨by rw [hl], rfl⟩
  · have hl : layB x = x.h := by rw [layB, if_neg (by omega), if_neg (by omega), if_neg (by omega)]
    simp [ht]
    refine ⟨by omega, callH [0, 1] (WHash_ok bs x.h hb h6) (by simp [Ptr, Ag]) (by simp [WO, RO]) (by simp) (by simp [WO]) (by simp) ?_⟩
    rintro y H' ⟨rfl, rfl⟩
    refine ⟨.inl (by simp), le_ok rfl, ?_⟩
    simp [Ptr, WO, RO]
    exact fin [258] (by decide) rfl rfl rfl ⟨by rw [hl], rfl⟩
set_option maxHeartbeats 1000000 in
theorem lay_nil (x : Th) (hx : x.ok) :
    ECalls Try.prog 7 [NP, .v (.agg (thC x))] [] fun y H' => H' = [] ∧ y = NP := by
  obtain ⟨h1, h2, h3, h4, h5, h6⟩ := hx
  have hkd := kd_eq x
  have hkl := kd_lt x
  have ht : x.h.take 32 = x.h := List.take_of_length_le (by omega)
  refine ecalls k_lay ?_
  simp [c_lay, thC, NP, hkd]
  refine alt (fun k0 => ?_) (fun k0 => ?_)
  · simp [wrap_u64n]
    refine call0 (WUint_nil (u64n x.n)) (by simp [NP, I]) ?_
    rintro y H' ⟨rfl, rfl⟩
    refine ⟨.inl rfl, le_ok rfl, ?_⟩
    simp [NP]
    exact fin [] (by decide) rfl rfl rfl ⟨rfl, rfl⟩
  simp [hkd]
  refine alt (fun k1 => ?_) (fun k1 => ?_)
  · simp
    refine call0 (WInt_nil x.n) (by simp [NP, I]) ?_
    rintro y H' ⟨rfl, rfl⟩
    refine ⟨.inl rfl, le_ok rfl, ?_⟩
    simp [NP]
    exact fin [] (by decide) rfl rfl rfl ⟨rfl, rfl⟩
  simp [hkd]
  refine alt (fun k2 => ?_) (fun k2 => ?_)
  · simp
    refine call0 (WBytes_nil (Bs x.b)) (by simp [NP, Bs]) ?_
    rintro y H' ⟨rfl, rfl⟩
    refine ⟨.inl rfl, le_ok rfl, ?_⟩
    simp [NP]
    exact fin [] (by decide) rfl rfl rfl ⟨rfl, rfl⟩
  · simp [ht]
    refine ⟨by omega, call0 (WHash_nil x.h) (by simp [NP, Ag]) ?_⟩
    rintro y H' ⟨rfl, rfl⟩
    refine ⟨.inl (by simp), le_ok rfl, ?_⟩
    simp [NP]
    exact fin [] (by decide) rfl rfl rfl ⟨rfl, rfl⟩
set_option maxHeartbeats 1000000 in
theorem laid_ok (b : List UInt8) (x : Th) (hx : x.ok) (hb : b.length ≤ 900000000) :
    ECalls Try.prog 8 [Bs b, .v (.agg (thC x))] [] fun y H' => H' = [some (RO (b ++ layB x))] ∧ y = R 0 (b ++ layB x) := by
  obtain ⟨h1, h2, h3, h4, h5, h6⟩ := hx
  have hkd := kd_eq x
  have hkl := kd_lt x
  have ht : x.h.take 32 = x.h := List.take_of_length_le (by omega)
  refine ecalls k_laid ?_
  simp [c_laid, thC, Bs, hkd]
  refine alt (fun k0 => ?_) (fun k0 => ?_)
  · have hl : layB x = uintB (u64n x.n) := by rw [layB, if_pos (by omega)]
    simp [wrap_u64n]
    refine call0 (RUint_ok b (u64n x.n) (u64n_lt _) hb) (by simp [Bs, I]) ?_
    rintro y H' ⟨rfl, rfl⟩
    refine ⟨.inl rfl, le_ok rfl, ?_⟩
    simp [R, RO]
    exact fin [208] (by decide) rfl rfl rfl ⟨by rw [hl], by rw [hl]⟩
  simp [hkd]
  refine alt (fun k1 => ?_) (fun k1 => ?_)
  · have hl : layB x = intB x.n := by rw [layB, if_neg (by omega), if_pos (by omega)]
    simp
    refine call0 (RInt_ok b x.n h3 h4 hb) (by simp [Bs, I]) ?_
    rintro y H' ⟨rfl, rfl⟩
    refine ⟨.inl rfl, le_ok rfl, ?_⟩
    simp [R, RO]
    exact fin [224] (by decide) rfl rfl rfl ⟨by rw [hl], by rw [hl]⟩
  simp [hkd]
  refine alt (fun k2 => ?_) (fun k2 => ?_)
  · have hl : layB x = bytesB x.b := by rw [layB, if_neg (by omega), if_neg (by omega), if_pos (by omega)]
    simp
    refine call0 (RBytes_ok b x.b hb h5) (by simp [Bs]) ?_
    rintro y H' ⟨rfl, rfl⟩
    refine ⟨.inl rfl, le_ok rfl, ?_⟩
    simp [R, RO]
    exact fin [256] (by decide) rfl rfl rfl ⟨by rw [hl], by rw [hl]⟩
  · have hl : layB x = x.h := by rw [layB, if_neg (by omega), if_neg (by omega), if_neg (by omega)]
    simp [ht]
    refine ⟨by omega, call0 (RHash_ok b x.h hb h6) (by simp [Bs, Ag]) ?_⟩
    rintro y H' ⟨rfl, rfl⟩
    refine ⟨.inl (by simp), le_ok rfl, ?_⟩
    simp [R, RO]
    exact fin [256] (by decide) rfl rfl rfl ⟨by rw [hl], by rw [hl]⟩
end Go.Proofs.Ytbbcofojjgofmaa
