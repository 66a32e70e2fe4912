import Derived.Test.YtbbcofojjgofmaaDoorEnc3
import Derived.Test.YtbbcofojjgofmaaDoorEnc5
namespace Go.Proofs.YtbbcofojjgofmaaDoor
open Go Go.EW
set_option linter.unusedSimpArgs false



/-- A thing that is laid. -/
structure Th where
  kind : Int
  n : Int
  b : List UInt8
  h : List UInt8
def Th.ok (x : Th) : Prop := -9223372036854775808 ≤ x.kind ∧ x.kind ≤ 9223372036854775807 ∧ -9223372036854775808 ≤ x.n ∧ x.n ≤ 9223372036854775807 ∧ x.b.length ≤ 10000000 ∧ x.h.length = 32
def thC (x : Th) : List EC := .fz (.lit (.int .i64 x.kind)) :: .fz (.lit (.int .i64 x.n)) :: .fz (.sl 1 (bsv x.b)) :: hc x.h
def u64n (n : Int) : Nat := (n % 18446744073709551616).toNat
def kd (x : Th) : Nat := (x.kind % 4).toNat
def layB (x : Th) : List UInt8 := if kd x = 0 then uintB (u64n x.n) else if kd x = 1 then intB x.n else if kd x = 2 then bytesB x.b else x.h
theorem u64n_lt (n : Int) : u64n n < 18446744073709551616 := by unfold u64n; omega
theorem wrap_u64n (n : Int) : IntKind.u64.wrap n = (u64n n : Int) := by
  simp [IntKind.wrap, IntKind.bits, IntKind.signed, u64n]
  omega
theorem kd_lt (x : Th) : kd x < 4 := by unfold kd; omega
theorem kd_eq (x : Th) : IntKind.i64.wrap ((IntKind.u64.wrap x.kind).tmod 4) = (kd x : Int) := by
  rw [wrap_u64n, Int.tmod_eq_emod_of_nonneg (by omega), wrap_i64 (by omega) (by omega)]
  unfold u64n kd
  omega

@[simp] def l_sure_1 (_ : Unit) : List EOp := [⟨0, (some 0), none, (.q (.mov (.k (.bool false)))), []⟩]
@[simp] def b_sure_2 (_ : Unit) : EB := reg0 (hid l_sure_1) 1
@[simp] def l_sure_4 (_ : Unit) : List EOp := [⟨6, (some 8), none, (.call 34 [(.t 7)]), []⟩, ⟨7, (some 1), none, (.q (.mov (.t 8))), []⟩]
@[simp] def l_sure_3 (_ : Unit) : List EOp := ⟨0, (some 2), none, (.call 30 []), []⟩ :: ⟨1, (some 3), none, (.call 31 [(.t 2), (.k (.int .u64 300))]), []⟩ :: ⟨2, (some 4), none, (.call 32 [(.t 3), (.k (.int .i64 (-1)))]), []⟩ :: ⟨3, (some 5), none, (.q (.bsr 5 1 [(.int .u8 0)] 1 [(0, (.k (.int .u8 97)))])), []⟩ :: ⟨4, (some 6), none, (.mrk (.t 5)), []⟩ :: ⟨5, (some 7), none, (.call 33 [(.t 4), (.t 6)]), []⟩ :: hid l_sure_4
@[simp] def b_sure_5 (_ : Unit) : EB := reg0 (hid l_sure_3) 8
@[simp] def l_sure_7 (_ : Unit) : List EOp := [⟨6, (some 15), (some (12, true)), (.call 7 [(.t 14)]), []⟩, ⟨7, (some 16), (some (12, true)), (.q (.bin .eql (.t 15) (.k (.int .i64 7)))), []⟩, ⟨8, (some 17), none, (.q (.pick (.t 12) (.t 16) (.k (.bool false)))), []⟩, ⟨9, (some 0), none, (.q (.mov (.t 17))), []⟩]
@[simp] def l_sure_6 (_ : Unit) : List EOp := ⟨0, (some 9), none, (.q (.mov (.t 1))), []⟩ :: ⟨1, (some 10), none, (.q (.b2s (.t 9))), []⟩ :: ⟨2, (some 11), none, (.q (.bin .eql (.t 10) (.k (.string ⟨#[2, 1, 44, 127, 97, 0, 0]⟩)))), []⟩ :: ⟨3, (some 12), none, (.q (.mov (.t 11))), []⟩ :: ⟨4, (some 13), (some (12, true)), (.q (.bsl 1 [(.int .u8 0)] 2 [(0, (.k (.int .u8 129))), (1, (.k (.int .u8 7)))])), []⟩ :: ⟨5, (some 14), (some (12, true)), (.call 6 [(.t 13)]), []⟩ :: hid l_sure_7
@[simp] def b_sure_8 (_ : Unit) : EB := reg0 (hid l_sure_6) 10
@[simp] def b_sure_9 (_ : Unit) : EB := .seq (hid b_sure_8) .ret
@[simp] def b_sure_10 (_ : Unit) : EB := .seq (hid b_sure_5) (hid b_sure_9)
@[simp] def b_sure_11 (_ : Unit) : EB := .seq (hid b_sure_2) (hid b_sure_10)
def c_sure : EB × List QOp × Nat := ((hid b_sure_11), [(.mov (.t 0))], 18)
theorem k_sure : cfun Tryd.prog 14 = some c_sure := by kernel_rfl

theorem sure_ok : ECalls Tryd.prog 14 [] [] fun y H' => H' = [] ∧ y = .lit (.bool true) := by
  refine ecalls k_sure ?_
  simp [c_sure]
  refine call0 New_ok rfl ?_
  rintro y H' ⟨rfl, rfl⟩
  refine ⟨.inl rfl, le_ok rfl, ?_⟩
  simp [Ptr, WO, RO]
  refine callH [16, 17] (WUint_ok [] 300 (by omega) (by simp)) (by simp [Ptr, I]) (by simp [WO, RO]) (by simp) (by simp) (by simp) ?_
  rintro y H' ⟨rfl, rfl⟩
  refine ⟨.inl rfl, le_ok rfl, ?_⟩
  have e1 : uintB 300 = [2, 1, 44] := by decide
  rw [e1]
  simp [Ptr, WO, RO]
  refine callH [16, 32] (WInt_ok [2, 1, 44] (-1) (by omega) (by omega) (by simp)) (by simp [Ptr, I]) (by simp [WO, RO]) (by simp) (by simp) (by simp) ?_
  rintro y H' ⟨rfl, rfl⟩
  refine ⟨.inl rfl, le_ok rfl, ?_⟩
  have e2 : intB (-1) = [127] := by decide
  rw [e2]
  simp [Ptr, WO, RO]
  refine callH [16, 48] (WBytes_ok [2, 1, 44, 127] [97] (by simp) (by simp)) (by simp [Ptr, Bs, bsv, cb]) (by simp [WO, RO]) (by simp) (by simp) (by simp) ?_
  rintro y H' ⟨rfl, rfl⟩
  refine ⟨.inl rfl, le_ok rfl, ?_⟩
  have e3 : bytesB [97] = [97, 0, 0] := by decide
  rw [e3]
  simp [Ptr, WO, RO]
  refine callH [16, 96] (WDone_ok [2, 1, 44, 127, 97, 0, 0] (by simp)) (by simp [Ptr]) (by simp [WO, RO]) (by simp) (by simp) (by simp) ?_
  rintro y H' ⟨rfl, rfl⟩
  refine ⟨.inl rfl, le_ok rfl, ?_⟩
  have hs : (strOf [2, 1, 44, 127, 97, 0, 0]).toList = [2, 1, 44, 127, 97, 0, 0] := by rw [bytes_list]; rfl
  simp [R, WO, RO, -strOf_map, hs]
  refine call0 (Read_ok [129, 7]) (by simp [Bs, bsv, cb]) ?_
  rintro y H' ⟨rfl, rfl⟩
  refine ⟨.inl (by simp), le_ok rfl, ?_⟩
  simp [Ptr, RdO]
  refine callH [224] RdInt_sure (by simp [Ptr]) (by simp [RdO]) (by simp) (by simp) (by simp) ?_
  rintro y H' ⟨rfl, rfl⟩
  refine ⟨.inl (by simp), le_ok rfl, ?_⟩
  simp [I, hs]
  exact fin [] (by decide) rfl rfl rfl ⟨rfl, rfl⟩

end Go.Proofs.YtbbcofojjgofmaaDoor
