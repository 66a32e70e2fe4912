import Derived.Test.YtpilpjameifcfaaGreatDoorAll5
import Derived.Test.YtpilpjameifcfaaGreatDoorProg
namespace Go.Proofs.YtpilpjameifcfaaGreatDoor
open Go Go.EW
set_option linter.unusedSimpArgs false

def s_Len64_0 : ByteArray := ⟨#[0, 1, 2, 2, 3, 3, 3, 3, 4, 4, 4, 4, 4, 4, 4, 4, 5, 5, 5, 5, 5, 5, 5, 5, 5, 5, 5, 5, 5, 5, 5, 5, 6, 6, 6, 6, 6, 6, 6, 6, 6, 6, 6, 6, 6, 6, 6, 6, 6, 6, 6, 6, 6, 6, 6, 6, 6, 6, 6, 6, 6, 6, 6, 6, 7, 7, 7, 7, 7, 7, 7, 7, 7, 7, 7, 7, 7, 7, 7, 7, 7, 7, 7, 7, 7, 7, 7, 7, 7, 7, 7, 7, 7, 7, 7, 7, 7, 7, 7, 7, 7, 7, 7, 7, 7, 7, 7, 7, 7, 7, 7, 7, 7, 7, 7, 7, 7, 7, 7, 7, 7, 7, 7, 7, 7, 7, 7, 7, 8, 8, 8, 8, 8, 8, 8, 8, 8, 8, 8, 8, 8, 8, 8, 8, 8, 8, 8, 8, 8, 8, 8, 8, 8, 8, 8, 8, 8, 8, 8, 8, 8, 8, 8, 8, 8, 8, 8, 8, 8, 8, 8, 8, 8, 8, 8, 8, 8, 8, 8, 8, 8, 8, 8, 8, 8, 8, 8, 8, 8, 8, 8, 8, 8, 8, 8, 8, 8, 8, 8, 8, 8, 8, 8, 8, 8, 8, 8, 8, 8, 8, 8, 8, 8, 8, 8, 8, 8, 8, 8, 8, 8, 8, 8, 8, 8, 8, 8, 8, 8, 8, 8, 8, 8, 8, 8, 8, 8, 8, 8, 8, 8, 8, 8, 8, 8, 8, 8, 8, 8, 8, 8, 8, 8, 8, 8, 8]⟩
@[simp] def l_Len64_1 (_ : Unit) : List EOp := [⟨0, (some 2), none, (.q (.mov (.k (.int .i64 0)))), []⟩]
@[simp] def b_Len64_2 (_ : Unit) : EB := reg0 (hid l_Len64_1) 1
@[simp] def l_Len64_3 (_ : Unit) : List EOp := [⟨0, (some 3), none, (.q (.mov (.t 0))), []⟩, ⟨1, (some 4), none, (.q (.bin .geq (.t 3) (.k (.int .u64 4294967296)))), []⟩]
@[simp] def b_Len64_4 (_ : Unit) : EB := reg0 (hid l_Len64_3) 2
@[simp] def l_Len64_5 (_ : Unit) : List EOp := [⟨0, (some 5), none, (.q (.mov (.t 0))), []⟩, ⟨1, (some 6), none, (.q (.bin .shr (.t 5) (.k (.int .u64 32)))), []⟩, ⟨2, (some 0), none, (.q (.mov (.t 6))), []⟩]
@[simp] def b_Len64_6 (_ : Unit) : EB := reg0 (hid l_Len64_5) 3
@[simp] def l_Len64_7 (_ : Unit) : List EOp := [⟨0, (some 2), none, (.q (.mov (.k (.int .i64 32)))), []⟩]
@[simp] def b_Len64_8 (_ : Unit) : EB := reg0 (hid l_Len64_7) 1
@[simp] def b_Len64_9 (_ : Unit) : EB := .seq (hid b_Len64_6) (hid b_Len64_8)
@[simp] def b_Len64_10 (_ : Unit) : EB := .cond (.t 4) (hid b_Len64_9) .skip
@[simp] def b_Len64_11 (_ : Unit) : EB := .seq (hid b_Len64_4) (hid b_Len64_10)
@[simp] def l_Len64_12 (_ : Unit) : List EOp := [⟨0, (some 7), none, (.q (.mov (.t 0))), []⟩, ⟨1, (some 8), none, (.q (.bin .geq (.t 7) (.k (.int .u64 65536)))), []⟩]
@[simp] def b_Len64_13 (_ : Unit) : EB := reg0 (hid l_Len64_12) 2
@[simp] def l_Len64_14 (_ : Unit) : List EOp := [⟨0, (some 9), none, (.q (.mov (.t 0))), []⟩, ⟨1, (some 10), none, (.q (.bin .shr (.t 9) (.k (.int .u64 16)))), []⟩, ⟨2, (some 0), none, (.q (.mov (.t 10))), []⟩]
@[simp] def b_Len64_15 (_ : Unit) : EB := reg0 (hid l_Len64_14) 3
@[simp] def l_Len64_16 (_ : Unit) : List EOp := [⟨0, (some 11), none, (.q (.mov (.t 2))), []⟩, ⟨1, (some 12), none, (.q (.bin .add (.t 11) (.k (.int .i64 16)))), []⟩, ⟨2, (some 2), none, (.q (.mov (.t 12))), []⟩]
@[simp] def b_Len64_17 (_ : Unit) : EB := reg0 (hid l_Len64_16) 3
@[simp] def b_Len64_18 (_ : Unit) : EB := .seq (hid b_Len64_15) (hid b_Len64_17)
@[simp] def b_Len64_19 (_ : Unit) : EB := .cond (.t 8) (hid b_Len64_18) .skip
@[simp] def b_Len64_20 (_ : Unit) : EB := .seq (hid b_Len64_13) (hid b_Len64_19)
@[simp] def l_Len64_21 (_ : Unit) : List EOp := [⟨0, (some 13), none, (.q (.mov (.t 0))), []⟩, ⟨1, (some 14), none, (.q (.bin .geq (.t 13) (.k (.int .u64 256)))), []⟩]
@[simp] def b_Len64_22 (_ : Unit) : EB := reg0 (hid l_Len64_21) 2
@[simp] def l_Len64_23 (_ : Unit) : List EOp := [⟨0, (some 15), none, (.q (.mov (.t 0))), []⟩, ⟨1, (some 16), none, (.q (.bin .shr (.t 15) (.k (.int .u64 8)))), []⟩, ⟨2, (some 0), none, (.q (.mov (.t 16))), []⟩]
@[simp] def b_Len64_24 (_ : Unit) : EB := reg0 (hid l_Len64_23) 3
@[simp] def l_Len64_25 (_ : Unit) : List EOp := [⟨0, (some 17), none, (.q (.mov (.t 2))), []⟩, ⟨1, (some 18), none, (.q (.bin .add (.t 17) (.k (.int .i64 8)))), []⟩, ⟨2, (some 2), none, (.q (.mov (.t 18))), []⟩]
@[simp] def b_Len64_26 (_ : Unit) : EB := reg0 (hid l_Len64_25) 3
@[simp] def b_Len64_27 (_ : Unit) : EB := .seq (hid b_Len64_24) (hid b_Len64_26)
@[simp] def b_Len64_28 (_ : Unit) : EB := .cond (.t 14) (hid b_Len64_27) .skip
@[simp] def b_Len64_29 (_ : Unit) : EB := .seq (hid b_Len64_22) (hid b_Len64_28)
@[simp] def l_Len64_31 (_ : Unit) : List EOp := [⟨6, (some 2), none, (.q (.mov (.t 24))), []⟩]
@[simp] def l_Len64_30 (_ : Unit) : List EOp := ⟨0, (some 19), none, (.q (.mov (.t 2))), []⟩ :: ⟨1, (some 20), none, (.q (.mov (.t 0))), []⟩ :: ⟨2, (some 21), none, (.q (.cnv .u8 (.t 20))), []⟩ :: ⟨3, (some 22), none, (.q (.ixs (.k (.string s_Len64_0)) (.t 21))), []⟩ :: ⟨4, (some 23), none, (.q (.cnv .i64 (.t 22))), []⟩ :: ⟨5, (some 24), none, (.q (.bin .add (.t 19) (.t 23))), []⟩ :: hid l_Len64_31
@[simp] def b_Len64_32 (_ : Unit) : EB := reg0 (hid l_Len64_30) 7
@[simp] def b_Len64_33 (_ : Unit) : EB := .seq (hid b_Len64_32) .ret
@[simp] def b_Len64_34 (_ : Unit) : EB := .seq (hid b_Len64_29) (hid b_Len64_33)
@[simp] def b_Len64_35 (_ : Unit) : EB := .seq (hid b_Len64_20) (hid b_Len64_34)
@[simp] def b_Len64_36 (_ : Unit) : EB := .seq (hid b_Len64_11) (hid b_Len64_35)
@[simp] def b_Len64_37 (_ : Unit) : EB := .seq (hid b_Len64_2) (hid b_Len64_36)
def c_Len64 : EB × List QOp × Nat := ((hid b_Len64_37), [(.mov (.t 2))], 25)
theorem k_Len64 : cfun Tryz.prog 108 = some c_Len64 := by kernel_rfl

@[simp] def l_width_1 (_ : Unit) : List EOp := [⟨0, (some 2), none, (.q (.mov (.k (.int .i64 0)))), []⟩]
@[simp] def b_width_2 (_ : Unit) : EB := reg0 (hid l_width_1) 1
@[simp] def l_width_3 (_ : Unit) : List EOp := [⟨0, (some 3), none, (.q (.mov (.t 0))), []⟩, ⟨1, (some 4), none, (.call 108 [(.t 3)]), []⟩, ⟨2, (some 5), none, (.q (.bin .add (.t 4) (.k (.int .i64 7)))), []⟩, ⟨3, (some 6), none, (.q (.bin .quo (.t 5) (.k (.int .i64 8)))), []⟩, ⟨4, (some 2), none, (.q (.mov (.t 6))), []⟩]
@[simp] def b_width_4 (_ : Unit) : EB := reg0 (hid l_width_3) 5
@[simp] def b_width_5 (_ : Unit) : EB := .seq (hid b_width_4) .ret
@[simp] def b_width_6 (_ : Unit) : EB := .seq (hid b_width_2) (hid b_width_5)
def c_width : EB × List QOp × Nat := ((hid b_width_6), [(.mov (.t 2))], 7)
theorem k_width : cfun Tryz.prog 82 = some c_width := by kernel_rfl

@[simp] def l_high_1 (_ : Unit) : List EOp := [⟨0, (some 6), none, (.q (.mov (.k (.slice none 0 0)))), []⟩]
@[simp] def b_high_2 (_ : Unit) : EB := reg0 (hid l_high_1) 1
@[simp] def l_high_3 (_ : Unit) : List EOp := [⟨0, (some 8), none, (.q (.mov (.t 1))), []⟩, ⟨1, (some 9), none, (.call 82 [(.t 8)]), []⟩, ⟨2, (some 10), none, (.q (.bin .sub (.t 9) (.k (.int .i64 1)))), []⟩, ⟨3, (some 7), none, (.q (.mov (.t 10))), []⟩]
@[simp] def b_high_4 (_ : Unit) : EB := reg0 (hid l_high_3) 4
@[simp] def l_high_5 (_ : Unit) : List EOp := [⟨0, (some 11), none, (.q (.mov (.t 7))), []⟩, ⟨1, (some 12), none, (.q (.bin .geq (.t 11) (.k (.int .i64 0)))), []⟩]
@[simp] def b_high_6 (_ : Unit) : EB := reg0 (hid l_high_5) 2
@[simp] def b_high_7 (_ : Unit) : EB := .cond (.t 12) .skip (.exit 0)
@[simp] def b_high_8 (_ : Unit) : EB := .seq (hid b_high_6) (hid b_high_7)
@[simp] def l_high_10 (_ : Unit) : List EOp := [⟨6, (some 21), none, (.q (.mov (.t 2))), []⟩, ⟨7, (some 22), none, (.q (.bin .xor (.t 20) (.t 21))), []⟩, ⟨8, (some 23), none, (.q (.bsl 1 [(.int .u8 0)] 1 [(0, (.t 22))])), []⟩, ⟨9, (some 24), none, (.app 5 1 1 (.t 15) (.t 23)), []⟩, ⟨10, (some 0), none, (.q (.mov (.t 24))), []⟩]
@[simp] def l_high_9 (_ : Unit) : List EOp := ⟨0, (some 15), none, (.q (.mov (.t 0))), []⟩ :: ⟨1, (some 16), none, (.q (.mov (.t 1))), []⟩ :: ⟨2, (some 17), none, (.q (.mov (.t 7))), []⟩ :: ⟨3, (some 18), none, (.q (.bin .mul (.k (.int .i64 8)) (.t 17))), []⟩ :: ⟨4, (some 19), none, (.q (.bin .shr (.t 16) (.t 18))), []⟩ :: ⟨5, (some 20), none, (.q (.cnv .u8 (.t 19))), []⟩ :: hid l_high_10
@[simp] def b_high_11 (_ : Unit) : EB := reg0 (hid l_high_9) 11
@[simp] def b_high_12 (_ : Unit) : EB := .block 1 (hid b_high_11)
@[simp] def l_high_13 (_ : Unit) : List EOp := [⟨0, (some 13), none, (.q (.mov (.t 7))), []⟩, ⟨1, (some 14), none, (.q (.bin .sub (.t 13) (.k (.int .i64 1)))), []⟩, ⟨2, (some 7), none, (.q (.mov (.t 14))), []⟩]
@[simp] def b_high_14 (_ : Unit) : EB := reg0 (hid l_high_13) 3
@[simp] def b_high_15 (_ : Unit) : EB := .seq (hid b_high_12) (hid b_high_14)
@[simp] def b_high_16 (_ : Unit) : EB := .seq (hid b_high_8) (hid b_high_15)
@[simp] def b_high_17 (_ : Unit) : EB := .loop (hid b_high_16)
@[simp] def b_high_18 (_ : Unit) : EB := .block 0 (hid b_high_17)
@[simp] def b_high_19 (_ : Unit) : EB := .seq (hid b_high_4) (hid b_high_18)
@[simp] def l_high_20 (_ : Unit) : List EOp := [⟨0, (some 25), none, (.q (.mov (.t 0))), []⟩, ⟨1, (some 6), none, (.q (.mov (.t 25))), []⟩]
@[simp] def b_high_21 (_ : Unit) : EB := reg0 (hid l_high_20) 2
@[simp] def b_high_22 (_ : Unit) : EB := .seq (hid b_high_21) .ret
@[simp] def b_high_23 (_ : Unit) : EB := .seq (hid b_high_19) (hid b_high_22)
@[simp] def b_high_24 (_ : Unit) : EB := .seq (hid b_high_2) (hid b_high_23)
def c_high : EB × List QOp × Nat := ((hid b_high_24), [(.mov (.t 6))], 26)
theorem k_high : cfun Tryz.prog 81 = some c_high := by kernel_rfl


theorem tab_ok : lenTab (fun i => s_Len64_0.data.toList[i]?) = true := by kernel_rfl
theorem leaf_ok (n x k : Nat) (hx : x = n / 2 ^ k) (h0 : k = 0 ∨ x ≠ 0) (h1 : x < 256) : ∃ r : UInt8, s_Len64_0.data.toList[x]? = some r ∧ IsLen n (k + r.toNat) ∧ r.toNat ≤ 8 := by
  obtain ⟨r, h2, h3, h4⟩ := lenTab_spec tab_ok h1
  refine ⟨r, h2, ?_, h4⟩
  rcases h0 with rfl | h0
  · simp at hx; subst hx; simpa using h3
  · subst hx; exact isLen_shift h3 h0

theorem len64_ok (n : Nat) (h : n < 18446744073709551616) : ECalls Tryz.prog 108 [I .u64 n] [] fun y H' => H' = [] ∧ ∃ r : Nat, IsLen n r ∧ r ≤ 64 ∧ y = I .i64 r := by
  have leaf : ∀ (a : Int) (x k : Nat), a = x → x = n / 2 ^ k → (k = 0 ∨ x ≠ 0) → x < 256 → ∃ r : UInt8, IntKind.u8.wrap a = a ∧ 0 ≤ a ∧ s_Len64_0.data[a.toNat]? = some r ∧ IsLen n (k + r.toNat) ∧ r.toNat ≤ 8 := by
    rintro a x k rfl h1 h2 h3
    obtain ⟨r, q1, q2, q3⟩ := leaf_ok n x k h1 h2 h3
    exact ⟨r, wrap_u8 (by omega) (by omega), by omega, by simpa using q1, q2, q3⟩
  refine ecalls k_Len64 ?_
  simp [c_Len64, I]
  refine alt (fun h1 => ?_) (fun h1 => ?_) <;> simp (disch := omega) [wrap_i64] <;> refine alt (fun h2 => ?_) (fun h2 => ?_) <;> simp (disch := omega) [wrap_i64] <;> refine alt (fun h3 => ?_) (fun h3 => ?_) <;> simp (disch := omega) [wrap_i64]
  · obtain ⟨r, e1, e2, e3, e4, e5⟩ := leaf ((n : Int) / 4294967296 / 65536 / 256) (n / 2 ^ 56) 56 (by omega) rfl (by omega) (by omega)
    simp (disch := omega) [e1, e2, e3, wrap_i64]
    exact fin [] (by simp) rfl rfl rfl ⟨rfl, 56 + r.toNat, e4, by omega, by simp⟩
  · obtain ⟨r, e1, e2, e3, e4, e5⟩ := leaf ((n : Int) / 4294967296 / 65536) (n / 2 ^ 48) 48 (by omega) rfl (by omega) (by omega)
    simp (disch := omega) [e1, e2, e3, wrap_i64]
    exact fin [] (by simp) rfl rfl rfl ⟨rfl, 48 + r.toNat, e4, by omega, by simp⟩
  · obtain ⟨r, e1, e2, e3, e4, e5⟩ := leaf ((n : Int) / 4294967296 / 256) (n / 2 ^ 40) 40 (by omega) rfl (by omega) (by omega)
    simp (disch := omega) [e1, e2, e3, wrap_i64]
    exact fin [] (by simp) rfl rfl rfl ⟨rfl, 40 + r.toNat, e4, by omega, by simp⟩
  · obtain ⟨r, e1, e2, e3, e4, e5⟩ := leaf ((n : Int) / 4294967296) (n / 2 ^ 32) 32 (by omega) rfl (by omega) (by omega)
    simp (disch := omega) [e1, e2, e3, wrap_i64]
    exact fin [] (by simp) rfl rfl rfl ⟨rfl, 32 + r.toNat, e4, by omega, by simp⟩
  · obtain ⟨r, e1, e2, e3, e4, e5⟩ := leaf ((n : Int) / 65536 / 256) (n / 2 ^ 24) 24 (by omega) rfl (by omega) (by omega)
    simp (disch := omega) [e1, e2, e3, wrap_i64]
    exact fin [] (by simp) rfl rfl rfl ⟨rfl, 24 + r.toNat, e4, by omega, by simp⟩
  · obtain ⟨r, e1, e2, e3, e4, e5⟩ := leaf ((n : Int) / 65536) (n / 2 ^ 16) 16 (by omega) rfl (by omega) (by omega)
    simp (disch := omega) [e1, e2, e3, wrap_i64]
    exact fin [] (by simp) rfl rfl rfl ⟨rfl, 16 + r.toNat, e4, by omega, by simp⟩
  · obtain ⟨r, e1, e2, e3, e4, e5⟩ := leaf ((n : Int) / 256) (n / 2 ^ 8) 8 (by omega) rfl (by omega) (by omega)
    simp (disch := omega) [e1, e2, e3, wrap_i64]
    exact fin [] (by simp) rfl rfl rfl ⟨rfl, 8 + r.toNat, e4, by omega, by simp⟩
  · obtain ⟨r, e1, e2, e3, e4, e5⟩ := leaf ((n : Int)) (n / 2 ^ 0) 0 (by omega) rfl (by omega) (by omega)
    simp at e3 e4
    simp (disch := omega) [e1, e2, e3, wrap_i64]
    exact fin [] (by simp) rfl rfl rfl ⟨rfl, r.toNat, e4, by omega, by simp⟩

theorem width_ok (n : Nat) (h : n < 18446744073709551616) : ECalls Tryz.prog 82 [I .u64 n] [] fun y H' => H' = [] ∧ y = I .i64 (nb n) := by
  refine ecalls k_width ?_
  simp [c_width, I]
  refine call0 (len64_ok n h) rfl ?_
  rintro y H' ⟨rfl, r, hr, hle, rfl⟩
  have h1 : IntKind.i64.wrap ((r : Int) + 7) = (r : Int) + 7 := wrap_i64 (by omega) (by omega)
  have h2 : IntKind.i64.wrap (((r : Int) + 7).tdiv 8) = (nb n : Int) := by
    rw [← isLen_nb hr, Int.tdiv_eq_ediv_of_nonneg (by omega), wrap_i64 (by omega) (by omega)]; omega
  simp [I, h1, h2]
  exact fin [] (by simp) rfl rfl rfl ⟨rfl, rfl⟩

/-- A slice of bytes of its own. -/
def R (o : Nat) (l : List UInt8) : EV := .v (.c (.row o l.length))
def RO (l : List UInt8) : EO := .row 5 1 (bsv l)

set_option maxHeartbeats 1000000 in
theorem high_ok (bs : List UInt8) (n : Nat) (m : UInt8) (h : n < 18446744073709551616) (hb : bs.length ≤ 1000000000) :
    ECalls Tryz.prog 81 [R 0 bs, I .u64 n, I .u8 m.toNat] [RO bs] fun y H' => H' = [none, some (RO (bs ++ (dg n).map (· ^^^ m)))] ∧ y = R 1 (bs ++ (dg n).map (· ^^^ m)) := by
  refine ecalls k_high ?_
  simp [c_high, I, R]
  refine call0 (width_ok n h) rfl ?_
  rintro y H' ⟨rfl, rfl⟩
  have h8 := nb_8 h
  simp (disch := omega) [I, wrap_i64]
  refine eloop (α := Nat × List UInt8) (fun a => a.1 ≤ nb n ∧ a.2 ++ (be a.1 n).map (· ^^^ m) = (dg n).map (· ^^^ m)) (fun a => a.1)
    (fun a => [R 1 (bs ++ a.2), I .u64 n, I .u8 m.toNat, .any, .any, .any, .any, I .i64 ((a.1 : Int) - 1), .any, .any, .any, .any, .any, .any, .any, .any, .any, .any, .any, .any, .any, .any, .any, .any, .any, .any]) (fun a => [none, some (RO (bs ++ a.2))]) (nb n, []) [0, 0]
    ⟨Nat.le_refl _, by simp [dg]⟩ (by simp [R, I]) (by simp [RO]) (by simp) (by simp) (by simp) ?_
  rintro ⟨k, ds⟩ ⟨hk, hds⟩
  simp [I, R, RO] at hk hds ⊢
  refine alt (fun hp => ?_) (fun hp => ?_)
  · obtain ⟨j, rfl⟩ : ∃ j, k = j + 1 := ⟨k - 1, by omega⟩
    have hdl := congrArg List.length hds
    simp [be_len, dg_len] at hdl
    simp (disch := omega) [wrap_i64, xor_byte]
    exact ⟨by omega, ⟨by omega, by omega⟩, round (j, ds ++ [b8 (n / 256 ^ j) ^^^ m]) [0, 178] ⟨by simp; omega, by rw [← hds]; simp [be]⟩ (by simp) (by simp [R, I, Nat.add_assoc]) (by simp [RO, bsv, cb]) (by simp) (by simp) (by simp)⟩
  · obtain rfl : k = 0 := by omega
    simp [be] at hds
    subst hds
    simp
    exact fin [1] (by simp) rfl rfl rfl ⟨by simp [RO], by simp [R]⟩

end Go.Proofs.YtpilpjameifcfaaGreatDoor

namespace Go.Proofs.YtpilpjameifcfaaGreatDoor
open Go Go.EW
set_option linter.unusedSimpArgs false

@[simp] def l_New_1 (_ : Unit) : List EOp := [⟨0, (some 0), none, (.q (.mov (.k (.pointer none)))), []⟩]
@[simp] def b_New_2 (_ : Unit) : EB := reg0 (hid l_New_1) 1
@[simp] def l_New_3 (_ : Unit) : List EOp := [⟨0, (some 1), none, (.q (.alloc 151 [(.slice none 0 0)])), []⟩, ⟨1, (some 0), none, (.q (.mov (.t 1))), []⟩]
@[simp] def b_New_4 (_ : Unit) : EB := reg0 (hid l_New_3) 2
@[simp] def b_New_5 (_ : Unit) : EB := .seq (hid b_New_4) .ret
@[simp] def b_New_6 (_ : Unit) : EB := .seq (hid b_New_2) (hid b_New_5)
def c_New : EB × List QOp × Nat := ((hid b_New_6), [(.mov (.t 0))], 2)
theorem k_New : cfun Tryz.prog 35 = some c_New := by kernel_rfl

@[simp] def l_WUint_1 (_ : Unit) : List EOp := [⟨0, (some 4), none, (.q (.mov (.k (.pointer none)))), []⟩]
@[simp] def b_WUint_2 (_ : Unit) : EB := reg0 (hid l_WUint_1) 1
@[simp] def l_WUint_3 (_ : Unit) : List EOp := [⟨0, (some 5), none, (.q (.mov (.t 0))), []⟩, ⟨1, (some 6), none, (.q (.eqp true (.t 5))), []⟩]
@[simp] def b_WUint_4 (_ : Unit) : EB := reg0 (hid l_WUint_3) 2
@[simp] def l_WUint_7 (_ : Unit) : List EOp := [⟨12, (some 19), none, (.q (.nilc (.t 7))), []⟩, ⟨13, (some 20), none, (.q (.fad 0 (.t 19))), []⟩, ⟨14, none, none, (.fz (.sto 1 (.t 20) (.t 18))), []⟩]
@[simp] def l_WUint_6 (_ : Unit) : List EOp := ⟨10, (some 17), none, (.q (.mov (.t 1))), []⟩ :: ⟨6, (some 13), none, (.call 82 [(.t 12)]), [0, 1, 2, 3, 4, 10]⟩ :: ⟨7, (some 14), none, (.q (.cnv .u8 (.t 13))), []⟩ :: ⟨8, (some 15), none, (.q (.bsl 1 [(.int .u8 0)] 1 [(0, (.t 14))])), []⟩ :: ⟨9, (some 16), none, (.app 5 1 1 (.t 11) (.t 15)), [0, 10]⟩ :: ⟨11, (some 18), none, (.call 81 [(.t 16), (.t 17), (.k (.int .u8 0))]), [0]⟩ :: hid l_WUint_7
@[simp] def l_WUint_5 (_ : Unit) : List EOp := ⟨0, (some 7), none, (.q (.mov (.t 0))), []⟩ :: ⟨1, (some 8), none, (.q (.mov (.t 0))), []⟩ :: ⟨2, (some 9), none, (.q (.nilc (.t 8))), []⟩ :: ⟨3, (some 10), none, (.q (.fad 0 (.t 9))), []⟩ :: ⟨4, (some 11), none, (.q (.ldc (.t 10))), []⟩ :: ⟨5, (some 12), none, (.q (.mov (.t 1))), []⟩ :: hid l_WUint_6
@[simp] def b_WUint_8 (_ : Unit) : EB := reg1 (hid l_WUint_5) 15
@[simp] def b_WUint_9 (_ : Unit) : EB := .cond (.t 6) (hid b_WUint_8) .skip
@[simp] def b_WUint_10 (_ : Unit) : EB := .seq (hid b_WUint_4) (hid b_WUint_9)
@[simp] def l_WUint_11 (_ : Unit) : List EOp := [⟨0, (some 21), none, (.q (.mov (.t 0))), []⟩, ⟨1, (some 4), none, (.q (.mov (.t 21))), []⟩]
@[simp] def b_WUint_12 (_ : Unit) : EB := reg0 (hid l_WUint_11) 2
@[simp] def b_WUint_13 (_ : Unit) : EB := .seq (hid b_WUint_12) .ret
@[simp] def b_WUint_14 (_ : Unit) : EB := .seq (hid b_WUint_10) (hid b_WUint_13)
@[simp] def b_WUint_15 (_ : Unit) : EB := .seq (hid b_WUint_2) (hid b_WUint_14)
def c_WUint : EB × List QOp × Nat := ((hid b_WUint_15), [(.mov (.t 4))], 22)
theorem k_WUint : cfun Tryz.prog 37 = some c_WUint := by kernel_rfl

@[simp] def l_WInt_1 (_ : Unit) : List EOp := [⟨0, (some 4), none, (.q (.mov (.k (.pointer none)))), []⟩]
@[simp] def b_WInt_2 (_ : Unit) : EB := reg0 (hid l_WInt_1) 1
@[simp] def l_WInt_3 (_ : Unit) : List EOp := [⟨0, (some 25), none, (.q (.mov (.t 0))), []⟩, ⟨1, (some 26), none, (.q (.eqp false (.t 25))), []⟩, ⟨2, (some 24), none, (.q (.mov (.t 26))), []⟩]
@[simp] def b_WInt_4 (_ : Unit) : EB := reg0 (hid l_WInt_3) 3
@[simp] def l_WInt_5 (_ : Unit) : List EOp := [⟨0, (some 28), none, (.q (.mov (.t 1))), []⟩, ⟨1, (some 29), none, (.q (.bin .lss (.t 28) (.k (.int .i64 0)))), []⟩, ⟨2, (some 27), none, (.q (.mov (.t 29))), []⟩]
@[simp] def b_WInt_6 (_ : Unit) : EB := reg0 (hid l_WInt_5) 3
@[simp] def l_WInt_7 (_ : Unit) : List EOp := [⟨0, (some 30), none, (.q (.mov (.t 1))), []⟩, ⟨1, (some 31), none, (.q (.un .xor (.t 30))), []⟩, ⟨2, (some 32), none, (.q (.cnv .u64 (.t 31))), []⟩, ⟨3, (some 5), none, (.q (.mov (.t 32))), []⟩]
@[simp] def b_WInt_8 (_ : Unit) : EB := reg0 (hid l_WInt_7) 4
@[simp] def l_WInt_11 (_ : Unit) : List EOp := [⟨12, (some 45), none, (.call 81 [(.t 43), (.t 44), (.k (.int .u8 255))]), [0]⟩, ⟨13, (some 46), none, (.q (.nilc (.t 33))), []⟩, ⟨14, (some 47), none, (.q (.fad 0 (.t 46))), []⟩, ⟨15, none, none, (.fz (.sto 1 (.t 47) (.t 45))), []⟩]
@[simp] def l_WInt_10 (_ : Unit) : List EOp := ⟨11, (some 44), none, (.q (.mov (.t 5))), []⟩ :: ⟨6, (some 39), none, (.call 82 [(.t 38)]), [0, 1, 2, 3, 4, 11]⟩ :: ⟨7, (some 40), none, (.q (.bin .sub (.k (.int .i64 127)) (.t 39))), []⟩ :: ⟨8, (some 41), none, (.q (.cnv .u8 (.t 40))), []⟩ :: ⟨9, (some 42), none, (.q (.bsl 1 [(.int .u8 0)] 1 [(0, (.t 41))])), []⟩ :: ⟨10, (some 43), none, (.app 5 1 1 (.t 37) (.t 42)), [0, 11]⟩ :: hid l_WInt_11
@[simp] def l_WInt_9 (_ : Unit) : List EOp := ⟨0, (some 33), none, (.q (.mov (.t 0))), []⟩ :: ⟨1, (some 34), none, (.q (.mov (.t 0))), []⟩ :: ⟨2, (some 35), none, (.q (.nilc (.t 34))), []⟩ :: ⟨3, (some 36), none, (.q (.fad 0 (.t 35))), []⟩ :: ⟨4, (some 37), none, (.q (.ldc (.t 36))), []⟩ :: ⟨5, (some 38), none, (.q (.mov (.t 5))), []⟩ :: hid l_WInt_10
@[simp] def b_WInt_12 (_ : Unit) : EB := reg1 (hid l_WInt_9) 16
@[simp] def b_WInt_13 (_ : Unit) : EB := .seq (hid b_WInt_8) (hid b_WInt_12)
@[simp] def l_WInt_14 (_ : Unit) : List EOp := [⟨0, (some 7), none, (.q (.mov (.t 1))), []⟩, ⟨1, (some 8), none, (.q (.cnv .u64 (.t 7))), []⟩, ⟨2, (some 6), none, (.q (.mov (.t 8))), []⟩]
@[simp] def b_WInt_15 (_ : Unit) : EB := reg0 (hid l_WInt_14) 3
@[simp] def l_WInt_18 (_ : Unit) : List EOp := [⟨12, (some 21), none, (.call 81 [(.t 19), (.t 20), (.k (.int .u8 0))]), [0]⟩, ⟨13, (some 22), none, (.q (.nilc (.t 9))), []⟩, ⟨14, (some 23), none, (.q (.fad 0 (.t 22))), []⟩, ⟨15, none, none, (.fz (.sto 1 (.t 23) (.t 21))), []⟩]
@[simp] def l_WInt_17 (_ : Unit) : List EOp := ⟨11, (some 20), none, (.q (.mov (.t 6))), []⟩ :: ⟨6, (some 15), none, (.call 82 [(.t 14)]), [0, 1, 2, 3, 4, 11]⟩ :: ⟨7, (some 16), none, (.q (.bin .add (.k (.int .i64 128)) (.t 15))), []⟩ :: ⟨8, (some 17), none, (.q (.cnv .u8 (.t 16))), []⟩ :: ⟨9, (some 18), none, (.q (.bsl 1 [(.int .u8 0)] 1 [(0, (.t 17))])), []⟩ :: ⟨10, (some 19), none, (.app 5 1 1 (.t 13) (.t 18)), [0, 11]⟩ :: hid l_WInt_18
@[simp] def l_WInt_16 (_ : Unit) : List EOp := ⟨0, (some 9), none, (.q (.mov (.t 0))), []⟩ :: ⟨1, (some 10), none, (.q (.mov (.t 0))), []⟩ :: ⟨2, (some 11), none, (.q (.nilc (.t 10))), []⟩ :: ⟨3, (some 12), none, (.q (.fad 0 (.t 11))), []⟩ :: ⟨4, (some 13), none, (.q (.ldc (.t 12))), []⟩ :: ⟨5, (some 14), none, (.q (.mov (.t 6))), []⟩ :: hid l_WInt_17
@[simp] def b_WInt_19 (_ : Unit) : EB := reg1 (hid l_WInt_16) 16
@[simp] def b_WInt_20 (_ : Unit) : EB := .seq (hid b_WInt_15) (hid b_WInt_19)
@[simp] def b_WInt_21 (_ : Unit) : EB := .cond (.t 27) (hid b_WInt_13) (hid b_WInt_20)
@[simp] def b_WInt_22 (_ : Unit) : EB := .seq (hid b_WInt_6) (hid b_WInt_21)
@[simp] def b_WInt_23 (_ : Unit) : EB := .cond (.t 24) .skip (hid b_WInt_22)
@[simp] def b_WInt_24 (_ : Unit) : EB := .seq (hid b_WInt_4) (hid b_WInt_23)
@[simp] def b_WInt_25 (_ : Unit) : EB := .block 0 (hid b_WInt_24)
@[simp] def l_WInt_26 (_ : Unit) : List EOp := [⟨0, (some 48), none, (.q (.mov (.t 0))), []⟩, ⟨1, (some 4), none, (.q (.mov (.t 48))), []⟩]
@[simp] def b_WInt_27 (_ : Unit) : EB := reg0 (hid l_WInt_26) 2
@[simp] def b_WInt_28 (_ : Unit) : EB := .seq (hid b_WInt_27) .ret
@[simp] def b_WInt_29 (_ : Unit) : EB := .seq (hid b_WInt_25) (hid b_WInt_28)
@[simp] def b_WInt_30 (_ : Unit) : EB := .seq (hid b_WInt_2) (hid b_WInt_29)
def c_WInt : EB × List QOp × Nat := ((hid b_WInt_30), [(.mov (.t 4))], 49)
theorem k_WInt : cfun Tryz.prog 51 = some c_WInt := by kernel_rfl

@[simp] def l_WBytes_1 (_ : Unit) : List EOp := [⟨0, (some 4), none, (.q (.mov (.k (.pointer none)))), []⟩]
@[simp] def b_WBytes_2 (_ : Unit) : EB := reg0 (hid l_WBytes_1) 1
@[simp] def l_WBytes_3 (_ : Unit) : List EOp := [⟨0, (some 7), none, (.q (.mov (.t 0))), []⟩, ⟨1, (some 8), none, (.q (.eqp false (.t 7))), []⟩]
@[simp] def b_WBytes_4 (_ : Unit) : EB := reg0 (hid l_WBytes_3) 2
@[simp] def l_WBytes_5 (_ : Unit) : List EOp := [⟨0, (some 4), none, (.q (.mov (.k (.pointer none)))), []⟩]
@[simp] def b_WBytes_6 (_ : Unit) : EB := reg0 (hid l_WBytes_5) 1
@[simp] def b_WBytes_7 (_ : Unit) : EB := .seq (hid b_WBytes_6) .ret
@[simp] def b_WBytes_8 (_ : Unit) : EB := .cond (.t 8) (hid b_WBytes_7) .skip
@[simp] def b_WBytes_9 (_ : Unit) : EB := .seq (hid b_WBytes_4) (hid b_WBytes_8)
@[simp] def l_WBytes_10 (_ : Unit) : List EOp := [⟨0, (some 9), none, (.q (.mov (.t 1))), []⟩, ⟨1, (some 10), none, (.q (.len (.t 9))), []⟩, ⟨2, (some 11), none, (.q (.mov (.k (.int .i64 0)))), []⟩]
@[simp] def b_WBytes_11 (_ : Unit) : EB := reg0 (hid l_WBytes_10) 3
@[simp] def l_WBytes_12 (_ : Unit) : List EOp := [⟨0, (some 12), none, (.q (.bin .lss (.t 11) (.t 10))), []⟩]
@[simp] def b_WBytes_13 (_ : Unit) : EB := reg0 (hid l_WBytes_12) 1
@[simp] def b_WBytes_14 (_ : Unit) : EB := .cond (.t 12) .skip (.exit 0)
@[simp] def l_WBytes_15 (_ : Unit) : List EOp := [⟨0, (some 13), none, (.q (.isl 1 (.t 9) (.t 11))), []⟩, ⟨1, (some 14), none, (.q (.ldc (.t 13))), []⟩, ⟨2, (some 6), none, (.q (.mov (.t 14))), []⟩]
@[simp] def b_WBytes_16 (_ : Unit) : EB := reg0 (hid l_WBytes_15) 3
@[simp] def l_WBytes_18 (_ : Unit) : List EOp := [⟨6, (some 21), none, (.q (.bsl 1 [(.int .u8 0)] 1 [(0, (.t 20))])), []⟩, ⟨7, (some 22), none, (.app 5 1 1 (.t 19) (.t 21)), []⟩, ⟨8, (some 23), none, (.q (.nilc (.t 15))), []⟩, ⟨9, (some 24), none, (.q (.fad 0 (.t 23))), []⟩, ⟨10, none, none, (.fz (.sto 1 (.t 24) (.t 22))), []⟩]
@[simp] def l_WBytes_17 (_ : Unit) : List EOp := ⟨0, (some 15), none, (.q (.mov (.t 0))), []⟩ :: ⟨1, (some 16), none, (.q (.mov (.t 0))), []⟩ :: ⟨2, (some 17), none, (.q (.nilc (.t 16))), []⟩ :: ⟨3, (some 18), none, (.q (.fad 0 (.t 17))), []⟩ :: ⟨4, (some 19), none, (.q (.ldc (.t 18))), []⟩ :: ⟨5, (some 20), none, (.q (.mov (.t 6))), []⟩ :: hid l_WBytes_18
@[simp] def b_WBytes_19 (_ : Unit) : EB := reg0 (hid l_WBytes_17) 11
@[simp] def l_WBytes_20 (_ : Unit) : List EOp := [⟨0, (some 25), none, (.q (.mov (.t 6))), []⟩, ⟨1, (some 26), none, (.q (.bin .eql (.t 25) (.k (.int .u8 0)))), []⟩]
@[simp] def b_WBytes_21 (_ : Unit) : EB := reg0 (hid l_WBytes_20) 2
@[simp] def l_WBytes_23 (_ : Unit) : List EOp := [⟨6, (some 33), none, (.app 5 1 1 (.t 31) (.t 32)), []⟩, ⟨7, (some 34), none, (.q (.nilc (.t 27))), []⟩, ⟨8, (some 35), none, (.q (.fad 0 (.t 34))), []⟩, ⟨9, none, none, (.fz (.sto 1 (.t 35) (.t 33))), []⟩]
@[simp] def l_WBytes_22 (_ : Unit) : List EOp := ⟨0, (some 27), none, (.q (.mov (.t 0))), []⟩ :: ⟨1, (some 28), none, (.q (.mov (.t 0))), []⟩ :: ⟨2, (some 29), none, (.q (.nilc (.t 28))), []⟩ :: ⟨3, (some 30), none, (.q (.fad 0 (.t 29))), []⟩ :: ⟨4, (some 31), none, (.q (.ldc (.t 30))), []⟩ :: ⟨5, (some 32), none, (.q (.bsl 1 [(.int .u8 0)] 1 [(0, (.k (.int .u8 255)))])), []⟩ :: hid l_WBytes_23
@[simp] def b_WBytes_24 (_ : Unit) : EB := reg0 (hid l_WBytes_22) 10
@[simp] def b_WBytes_25 (_ : Unit) : EB := .cond (.t 26) (hid b_WBytes_24) .skip
@[simp] def b_WBytes_26 (_ : Unit) : EB := .seq (hid b_WBytes_21) (hid b_WBytes_25)
@[simp] def b_WBytes_27 (_ : Unit) : EB := .seq (hid b_WBytes_19) (hid b_WBytes_26)
@[simp] def b_WBytes_28 (_ : Unit) : EB := .seq (hid b_WBytes_16) (hid b_WBytes_27)
@[simp] def b_WBytes_29 (_ : Unit) : EB := .block 1 (hid b_WBytes_28)
@[simp] def l_WBytes_30 (_ : Unit) : List EOp := [⟨0, (some 36), none, (.q (.bin .add (.t 11) (.k (.int .i64 1)))), []⟩, ⟨1, (some 11), none, (.q (.mov (.t 36))), []⟩]
@[simp] def b_WBytes_31 (_ : Unit) : EB := reg0 (hid l_WBytes_30) 2
@[simp] def b_WBytes_32 (_ : Unit) : EB := .seq (hid b_WBytes_29) (hid b_WBytes_31)
@[simp] def b_WBytes_33 (_ : Unit) : EB := .seq (hid b_WBytes_14) (hid b_WBytes_32)
@[simp] def b_WBytes_34 (_ : Unit) : EB := .seq (hid b_WBytes_13) (hid b_WBytes_33)
@[simp] def b_WBytes_35 (_ : Unit) : EB := .loop (hid b_WBytes_34)
@[simp] def b_WBytes_36 (_ : Unit) : EB := .block 0 (hid b_WBytes_35)
@[simp] def b_WBytes_37 (_ : Unit) : EB := .seq (hid b_WBytes_11) (hid b_WBytes_36)
@[simp] def l_WBytes_39 (_ : Unit) : List EOp := [⟨6, (some 43), none, (.app 5 1 1 (.t 41) (.t 42)), []⟩, ⟨7, (some 44), none, (.q (.nilc (.t 37))), []⟩, ⟨8, (some 45), none, (.q (.fad 0 (.t 44))), []⟩, ⟨9, none, none, (.fz (.sto 1 (.t 45) (.t 43))), []⟩]
@[simp] def l_WBytes_38 (_ : Unit) : List EOp := ⟨0, (some 37), none, (.q (.mov (.t 0))), []⟩ :: ⟨1, (some 38), none, (.q (.mov (.t 0))), []⟩ :: ⟨2, (some 39), none, (.q (.nilc (.t 38))), []⟩ :: ⟨3, (some 40), none, (.q (.fad 0 (.t 39))), []⟩ :: ⟨4, (some 41), none, (.q (.ldc (.t 40))), []⟩ :: ⟨5, (some 42), none, (.q (.bsl 1 [(.int .u8 0)] 2 [(0, (.k (.int .u8 0))), (1, (.k (.int .u8 0)))])), []⟩ :: hid l_WBytes_39
@[simp] def b_WBytes_40 (_ : Unit) : EB := reg0 (hid l_WBytes_38) 10
@[simp] def l_WBytes_41 (_ : Unit) : List EOp := [⟨0, (some 46), none, (.q (.mov (.t 0))), []⟩, ⟨1, (some 4), none, (.q (.mov (.t 46))), []⟩]
@[simp] def b_WBytes_42 (_ : Unit) : EB := reg0 (hid l_WBytes_41) 2
@[simp] def b_WBytes_43 (_ : Unit) : EB := .seq (hid b_WBytes_42) .ret
@[simp] def b_WBytes_44 (_ : Unit) : EB := .seq (hid b_WBytes_40) (hid b_WBytes_43)
@[simp] def b_WBytes_45 (_ : Unit) : EB := .seq (hid b_WBytes_37) (hid b_WBytes_44)
@[simp] def b_WBytes_46 (_ : Unit) : EB := .seq (hid b_WBytes_9) (hid b_WBytes_45)
@[simp] def b_WBytes_47 (_ : Unit) : EB := .seq (hid b_WBytes_2) (hid b_WBytes_46)
def c_WBytes : EB × List QOp × Nat := ((hid b_WBytes_47), [(.mov (.t 4))], 47)
theorem k_WBytes : cfun Tryz.prog 52 = some c_WBytes := by kernel_rfl

@[simp] def l_WHash_1 (_ : Unit) : List EOp := [⟨0, (some 3), none, (.q (.box 28 (.t 1))), []⟩, ⟨1, (some 4), none, (.q (.mov (.k (.pointer none)))), []⟩]
@[simp] def b_WHash_2 (_ : Unit) : EB := reg0 (hid l_WHash_1) 2
@[simp] def l_WHash_3 (_ : Unit) : List EOp := [⟨0, (some 5), none, (.q (.mov (.t 0))), []⟩, ⟨1, (some 6), none, (.q (.eqp true (.t 5))), []⟩]
@[simp] def b_WHash_4 (_ : Unit) : EB := reg0 (hid l_WHash_3) 2
@[simp] def l_WHash_6 (_ : Unit) : List EOp := [⟨6, (some 13), none, (.app 5 1 1 (.t 11) (.t 12)), [0]⟩, ⟨7, (some 14), none, (.q (.nilc (.t 7))), []⟩, ⟨8, (some 15), none, (.q (.fad 0 (.t 14))), []⟩, ⟨9, none, none, (.fz (.sto 1 (.t 15) (.t 13))), []⟩]
@[simp] def l_WHash_5 (_ : Unit) : List EOp := ⟨0, (some 7), none, (.q (.mov (.t 0))), []⟩ :: ⟨1, (some 8), none, (.q (.mov (.t 0))), []⟩ :: ⟨2, (some 9), none, (.q (.nilc (.t 8))), []⟩ :: ⟨3, (some 10), none, (.q (.fad 0 (.t 9))), []⟩ :: ⟨4, (some 11), none, (.q (.ldc (.t 10))), []⟩ :: ⟨5, (some 12), none, (.q (.sar 32 (.t 3) none none)), []⟩ :: hid l_WHash_6
@[simp] def b_WHash_7 (_ : Unit) : EB := reg1 (hid l_WHash_5) 10
@[simp] def b_WHash_8 (_ : Unit) : EB := .cond (.t 6) (hid b_WHash_7) .skip
@[simp] def b_WHash_9 (_ : Unit) : EB := .seq (hid b_WHash_4) (hid b_WHash_8)
@[simp] def l_WHash_10 (_ : Unit) : List EOp := [⟨0, (some 16), none, (.q (.mov (.t 0))), []⟩, ⟨1, (some 4), none, (.q (.mov (.t 16))), []⟩]
@[simp] def b_WHash_11 (_ : Unit) : EB := reg0 (hid l_WHash_10) 2
@[simp] def b_WHash_12 (_ : Unit) : EB := .seq (hid b_WHash_11) .ret
@[simp] def b_WHash_13 (_ : Unit) : EB := .seq (hid b_WHash_9) (hid b_WHash_12)
@[simp] def b_WHash_14 (_ : Unit) : EB := .seq (hid b_WHash_2) (hid b_WHash_13)
def c_WHash : EB × List QOp × Nat := ((hid b_WHash_14), [(.mov (.t 4))], 17)
theorem k_WHash : cfun Tryz.prog 38 = some c_WHash := by kernel_rfl

@[simp] def l_WDone_1 (_ : Unit) : List EOp := [⟨0, (some 2), none, (.q (.mov (.k (.slice none 0 0)))), []⟩]
@[simp] def b_WDone_2 (_ : Unit) : EB := reg0 (hid l_WDone_1) 1
@[simp] def l_WDone_3 (_ : Unit) : List EOp := [⟨0, (some 3), none, (.q (.mov (.t 0))), []⟩, ⟨1, (some 4), none, (.q (.eqp false (.t 3))), []⟩]
@[simp] def b_WDone_4 (_ : Unit) : EB := reg0 (hid l_WDone_3) 2
@[simp] def l_WDone_5 (_ : Unit) : List EOp := [⟨0, (some 2), none, (.q (.mov (.k (.slice none 0 0)))), []⟩]
@[simp] def b_WDone_6 (_ : Unit) : EB := reg0 (hid l_WDone_5) 1
@[simp] def b_WDone_7 (_ : Unit) : EB := .seq (hid b_WDone_6) .ret
@[simp] def b_WDone_8 (_ : Unit) : EB := .cond (.t 4) (hid b_WDone_7) .skip
@[simp] def b_WDone_9 (_ : Unit) : EB := .seq (hid b_WDone_4) (hid b_WDone_8)
@[simp] def l_WDone_10 (_ : Unit) : List EOp := [⟨0, (some 5), none, (.q (.mov (.t 0))), []⟩, ⟨1, (some 6), none, (.q (.nilc (.t 5))), []⟩, ⟨2, (some 7), none, (.q (.fad 0 (.t 6))), []⟩, ⟨3, (some 8), none, (.q (.ldc (.t 7))), []⟩, ⟨4, (some 9), none, (.call 83 [(.t 8)]), []⟩, ⟨5, (some 2), none, (.q (.mov (.t 9))), []⟩]
@[simp] def b_WDone_11 (_ : Unit) : EB := reg0 (hid l_WDone_10) 6
@[simp] def b_WDone_12 (_ : Unit) : EB := .seq (hid b_WDone_11) .ret
@[simp] def b_WDone_13 (_ : Unit) : EB := .seq (hid b_WDone_9) (hid b_WDone_12)
@[simp] def b_WDone_14 (_ : Unit) : EB := .seq (hid b_WDone_2) (hid b_WDone_13)
def c_WDone : EB × List QOp × Nat := ((hid b_WDone_14), [(.mov (.t 2))], 10)
theorem k_WDone : cfun Tryz.prog 39 = some c_WDone := by kernel_rfl

@[simp] def l_CloneB_1 (_ : Unit) : List EOp := [⟨0, (some 2), none, (.q (.mov (.k (.slice none 0 0)))), []⟩]
@[simp] def b_CloneB_2 (_ : Unit) : EB := reg0 (hid l_CloneB_1) 1
@[simp] def l_CloneB_3 (_ : Unit) : List EOp := [⟨0, (some 3), none, (.q (.mov (.t 0))), []⟩, ⟨1, (some 4), none, (.nild false (.t 3)), []⟩]
@[simp] def b_CloneB_4 (_ : Unit) : EB := reg0 (hid l_CloneB_3) 2
@[simp] def l_CloneB_5 (_ : Unit) : List EOp := [⟨0, (some 2), none, (.q (.mov (.k (.slice none 0 0)))), []⟩]
@[simp] def b_CloneB_6 (_ : Unit) : EB := reg0 (hid l_CloneB_5) 1
@[simp] def b_CloneB_7 (_ : Unit) : EB := .seq (hid b_CloneB_6) .ret
@[simp] def b_CloneB_8 (_ : Unit) : EB := .cond (.t 4) (hid b_CloneB_7) .skip
@[simp] def b_CloneB_9 (_ : Unit) : EB := .seq (hid b_CloneB_4) (hid b_CloneB_8)
@[simp] def l_CloneB_10 (_ : Unit) : List EOp := [⟨0, (some 5), none, (.q (.bsr 5 1 [(.int .u8 0)] 0 [])), []⟩, ⟨1, (some 6), none, (.q (.mov (.t 0))), []⟩, ⟨2, (some 7), none, (.app 5 1 1 (.t 5) (.t 6)), []⟩, ⟨3, (some 2), none, (.q (.mov (.t 7))), []⟩]
@[simp] def b_CloneB_11 (_ : Unit) : EB := reg0 (hid l_CloneB_10) 4
@[simp] def b_CloneB_12 (_ : Unit) : EB := .seq (hid b_CloneB_11) .ret
@[simp] def b_CloneB_13 (_ : Unit) : EB := .seq (hid b_CloneB_9) (hid b_CloneB_12)
@[simp] def b_CloneB_14 (_ : Unit) : EB := .seq (hid b_CloneB_2) (hid b_CloneB_13)
def c_CloneB : EB × List QOp × Nat := ((hid b_CloneB_14), [(.mov (.t 2))], 8)
theorem k_CloneB : cfun Tryz.prog 83 = some c_CloneB := by kernel_rfl


def Ptr (o : Nat) : EV := .v (.c (.ptr o 0))
def NP : EV := .v (.c (.fz (.lit (.pointer none))))
/-- A writer, and its line. -/
def WO (r : Nat) (l : List UInt8) : EO := .box 151 [.row r l.length]
def uintB (n : Nat) : List UInt8 := b8 (nb n) :: dg n

theorem xor0 (l : List UInt8) : l.map (· ^^^ 0) = l := by
  induction l with
  | nil => rfl
  | cons x r ih => rw [List.map_cons, ih]; simp

theorem New_ok : ECalls Tryz.prog 35 [] [] fun y H' => H' = [some (WO 1 []), some (RO [])] ∧ y = Ptr 0 := by
  refine ecalls k_New ?_
  simp [c_New]
  refine finW _ (weak_nil (o := 16) (k := 0) (ty := 5) (es := 1) rfl rfl (by omega)) ?_
  exact fin [16, 48] (by simp) rfl rfl rfl ⟨rfl, rfl⟩

theorem clone_ok (l : List UInt8) (hl : l.length ≤ 1000000000) : ECalls Tryz.prog 83 [Bs l] [] fun y H' => H' = [some (RO l)] ∧ y = R 0 l := by
  refine ecalls k_CloneB ?_
  simp [c_CloneB, Bs]
  refine both (fun h => ?_) (fun _ => ?_)
  · simp
    refine finW _ (weak_nilR 2 5 1 rfl (by omega)) ?_
    exact fin [64] (by decide) rfl rfl rfl ⟨by rw [h]; rfl, by rw [h]; rfl⟩
  · simp
    exact ⟨by omega, fin [80] (by decide) rfl rfl rfl ⟨rfl, rfl⟩⟩

set_option maxHeartbeats 1000000 in
theorem WUint_ok (bs : List UInt8) (n : Nat) (h : n < 18446744073709551616) (hb : bs.length ≤ 900000000) :
    ECalls Tryz.prog 37 [Ptr 0, I .u64 n] [WO 1 bs, RO bs] fun y H' => H' = [some (WO 2 (bs ++ uintB n)), none, some (RO (bs ++ uintB n))] ∧ y = Ptr 0 := by
  have h8 := nb_8 h
  refine ecalls k_WUint ?_
  simp [c_WUint, I, Ptr, WO, RO]
  refine call0 (width_ok n h) rfl ?_
  rintro y H' ⟨rfl, rfl⟩
  simp (disch := omega) [I, wrap_u8_nat, Wok]
  refine ⟨by omega, callH [194] (high_ok (bs ++ [b8 (nb n)]) n 0 h (by simp; omega)) (by simp [R, I]) (by simp [RO, bsv, cb]) (by simp) (by simp) (by simp [Wok]) ?_⟩
  rintro y H' ⟨rfl, rfl⟩
  refine ⟨.inl rfl, le_ok rfl, ?_⟩
  simp [R, xor0]
  exact fin [226] (by decide) rfl rfl rfl ⟨by simp [RO, uintB], rfl⟩

theorem WUint_nil (n : Nat) : ECalls Tryz.prog 37 [NP, I .u64 n] [] fun y H' => H' = [] ∧ y = NP := by
  refine ecalls k_WUint ?_
  simp [c_WUint, I, NP]
  exact fin [] (by simp) rfl rfl rfl ⟨rfl, rfl⟩

def intB (n : Int) : List UInt8 := if n < 0 then b8 (127 - nb (-n - 1).toNat) :: (dg (-n - 1).toNat).map (· ^^^ 255) else b8 (128 + nb n.toNat) :: dg n.toNat

theorem WInt_nil (n : Int) : ECalls Tryz.prog 51 [NP, I .i64 n] [] fun y H' => H' = [] ∧ y = NP := by
  refine ecalls k_WInt ?_
  simp [c_WInt, I, NP]
  exact fin [] (by simp) rfl rfl rfl ⟨rfl, rfl⟩

set_option maxHeartbeats 1000000 in
theorem WInt_ok (bs : List UInt8) (n : Int) (h0 : -9223372036854775808 ≤ n) (h1 : n ≤ 9223372036854775807) (hb : bs.length ≤ 900000000) :
    ECalls Tryz.prog 51 [Ptr 0, I .i64 n] [WO 1 bs, RO bs] fun y H' => H' = [some (WO 2 (bs ++ intB n)), none, some (RO (bs ++ intB n))] ∧ y = Ptr 0 := by
  refine ecalls k_WInt ?_
  simp [c_WInt, I, Ptr, WO, RO]
  refine alt (fun hn => ?_) (fun hn => ?_)
  · obtain ⟨u, hu⟩ : ∃ u : Nat, -1 - n = u := ⟨(-1 - n).toNat, by omega⟩
    have hu' : (-n - 1).toNat = u := by omega
    have h8 := nb_8 (show u < 18446744073709551616 by omega)
    simp (disch := omega) [hu, wrap_i64, wrap_u64]
    refine call0 (width_ok u (by omega)) rfl ?_
    rintro y H' ⟨rfl, rfl⟩
    have hk : (127 : Int) - (nb u : Int) = ((127 - nb u : Nat) : Int) := by omega
    simp (disch := omega) [I, wrap_i64, hk, wrap_u8_nat, Wok]
    refine ⟨by omega, callH [338] (high_ok (bs ++ [b8 (127 - nb u)]) u 255 (by omega) (by simp; omega)) (by simp [R, I]) (by simp [RO, bsv, cb]) (by simp) (by simp) (by simp [Wok]) ?_⟩
    rintro y H' ⟨rfl, rfl⟩
    refine ⟨.inl rfl, le_ok rfl, ?_⟩
    have hi : intB n = b8 (127 - nb u) :: (dg u).map (· ^^^ 255) := by rw [intB, if_pos hn, hu']
    simp [R]
    exact fin [370] (by decide) rfl rfl rfl ⟨by simp [RO, hi], rfl⟩
  · obtain ⟨u, rfl⟩ : ∃ u : Nat, n = u := ⟨n.toNat, by omega⟩
    have h8 := nb_8 (show u < 18446744073709551616 by omega)
    simp (disch := omega) [wrap_u64]
    refine call0 (width_ok u (by omega)) rfl ?_
    rintro y H' ⟨rfl, rfl⟩
    have hk : IntKind.u8.wrap ((128 : Int) + (nb u : Int)) = ((b8 (128 + nb u)).toNat : Int) := by rw [← wrap_u8_nat]; rfl
    simp (disch := omega) [I, wrap_i64, hk, Wok]
    refine ⟨by omega, callH [322] (high_ok (bs ++ [b8 (128 + nb u)]) u 0 (by omega) (by simp; omega)) (by simp [R, I]) (by simp [RO, bsv, cb]) (by simp) (by simp) (by simp [Wok]) ?_⟩
    rintro y H' ⟨rfl, rfl⟩
    refine ⟨.inl rfl, le_ok rfl, ?_⟩
    have hi : intB (u : Int) = b8 (128 + nb u) :: dg u := by rw [intB, if_neg (by omega)]; simp
    simp [R, xor0]
    exact fin [354] (by decide) rfl rfl rfl ⟨by simp [RO, hi], rfl⟩

def stuffB (l : List UInt8) : List UInt8 := l.flatMap fun c => if c = 0 then [0, 255] else [c]
def bytesB (l : List UInt8) : List UInt8 := stuffB l ++ [0, 0]
theorem stuff_len (l : List UInt8) : (stuffB l).length ≤ 2 * l.length := by
  induction l with
  | nil => simp [stuffB]
  | cons x r ih =>
    have : (stuffB (x :: r)).length = (if x = 0 then [0, 255] else [x] : List UInt8).length + (stuffB r).length := by simp [stuffB]
    rw [this]
    split <;> simp <;> omega
theorem stuff_snoc (l : List UInt8) (c : UInt8) : stuffB (l ++ [c]) = stuffB l ++ (if c = 0 then [0, 255] else [c]) := by simp [stuffB]
theorem take_snoc {l : List UInt8} {i : Nat} {c : UInt8} (h : l[i]? = some c) : l.take (i + 1) = l.take i ++ [c] := by
  rw [List.take_add_one, h]; rfl

theorem WBytes_nil (x : EV) : ECalls Tryz.prog 52 [NP, x] [] fun y H' => H' = [] ∧ y = NP := by
  refine ecalls k_WBytes ?_
  simp [c_WBytes, NP]
  exact fin [] (by simp) rfl rfl rfl ⟨rfl, rfl⟩

set_option maxHeartbeats 1000000 in
theorem WBytes_ok (bs l : List UInt8) (hb : bs.length ≤ 900000000) (hl : l.length ≤ 10000000) :
    ECalls Tryz.prog 52 [Ptr 0, Bs l] [WO 1 bs, RO bs] fun y H' => H' = [some (WO 2 (bs ++ bytesB l)), none, some (RO (bs ++ bytesB l))] ∧ y = Ptr 0 := by
  refine ecalls k_WBytes ?_
  simp [c_WBytes, Bs, Ptr, WO, RO]
  refine eloop (α := Nat) (fun i => i ≤ l.length) (fun i => l.length - i)
    (fun i => [Ptr 0, .any, .any, .any, .any, .any, .any, .any, .any, Bs l, I .i64 l.length, I .i64 i, .any, .any, .any, .any, .any, .any, .any, .any, .any, .any, .any, .any, .any, .any, .any, .any, .any, .any, .any, .any, .any, .any, .any, .any, .any, .any, .any, .any, .any, .any, .any, .any, .any, .any, .any]) (fun i => [some (WO 2 (bs ++ stuffB (l.take i))), none, some (RO (bs ++ stuffB (l.take i)))]) 0 [0, 1, 1]
    (Nat.zero_le _) (by simp [Ptr, Bs, I]) (by simp [RO, WO, stuffB]) (by simp) (by decide) (by simp) ?_
  intro i hi
  have hle := stuff_len (l.take i)
  have hlt : (l.take i).length = i := by simp; omega
  simp [I, Bs, Ptr, WO, RO]
  refine alt (fun hp => ?_) (fun hp => ?_)
  · obtain ⟨c, hc⟩ : ∃ c, l[i]? = some c := ⟨l[i], by simp [hp]⟩
    have hcb : (bsv l)[i]? = some (cb c) := by simp [bsv, hc]
    have hts := take_snoc hc
    simp [hcb, cb]
    refine ⟨by omega, alt (fun hz => ?_) (fun hz => ?_)⟩
    · have hc0 : c = 0 := by apply UInt8.toNat_inj.1; simpa using hz
      have hst : stuffB (l.take (i + 1)) = stuffB (l.take i) ++ [0, 255] := by rw [hts, stuff_snoc, if_pos hc0]
      simp
      have w1 : IntKind.i64.wrap ((i : Int) + 1) = ((i + 1 : Nat) : Int) := wrap_i64 (by omega) (by omega)
      simp [w1, -Int.natCast_add]
      refine ⟨by omega, round (i + 1) [0, 1, 371] (by omega) (by omega) ?_ ?_ (by simp) (by decide) (by simp)⟩
      · simp [hst]
      · subst hc0; simp [hst, bsv, cb]; omega
    · have hc0 : c ≠ 0 := by rintro rfl; exact hz rfl
      have hst : stuffB (l.take (i + 1)) = stuffB (l.take i) ++ [c] := by rw [hts, stuff_snoc, if_neg hc0]
      have w1 : IntKind.i64.wrap ((i : Int) + 1) = ((i + 1 : Nat) : Int) := wrap_i64 (by omega) (by omega)
      simp [w1, -Int.natCast_add]
      refine round (i + 1) [0, 1, 179] (by omega) (by omega) ?_ ?_ (by simp) (by decide) (by simp)
      · simp [hst]
      · simp [hst, bsv, cb]; omega
  · have hil : i = l.length := by omega
    subst hil
    simp at hle
    simp
    exact ⟨by omega, fin [115] (by decide) rfl rfl rfl ⟨by simp [bytesB, bsv, cb]; omega, rfl⟩⟩

theorem WHash_nil (h : List UInt8) : ECalls Tryz.prog 38 [NP, Ag h] [] fun y H' => H' = [] ∧ y = NP := by
  refine ecalls k_WHash ?_
  simp [c_WHash, NP, Ag]
  exact fin [] (by simp) rfl rfl rfl ⟨rfl, rfl⟩

set_option maxHeartbeats 1000000 in
theorem WHash_ok (bs h : List UInt8) (hb : bs.length ≤ 900000000) (hl : h.length = 32) :
    ECalls Tryz.prog 38 [Ptr 0, Ag h] [WO 1 bs, RO bs] fun y H' => H' = [some (WO 2 (bs ++ h)), none, some (RO (bs ++ h))] ∧ y = Ptr 0 := by
  refine ecalls k_WHash ?_
  have ht : h.take 32 = h := List.take_of_length_le (by omega)
  simp [c_WHash, Ptr, WO, RO, Ag, ht]
  exact ⟨by omega, by omega, fin [162] (by decide) rfl rfl rfl ⟨by simp, rfl⟩⟩

theorem WDone_ok (bs : List UInt8) (hb : bs.length ≤ 1000000000) : ECalls Tryz.prog 39 [Ptr 0] [WO 1 bs, RO bs] fun y H' => H' = [some (WO 1 bs), some (RO bs), some (RO bs)] ∧ y = R 2 bs := by
  refine ecalls k_WDone ?_
  simp [c_WDone, Ptr, WO, RO]
  refine call0 (clone_ok bs hb) (by simp [Bs]) ?_
  rintro y H' ⟨rfl, rfl⟩
  refine ⟨.inr ⟨rfl, by simp [RO, noSlO, bsv, cb]⟩, le_ok rfl, ?_⟩
  simp [R, RO]
  exact fin [114] (by decide) rfl rfl rfl ⟨rfl, rfl⟩

theorem WDone_nil : ECalls Tryz.prog 39 [NP] [] fun y H' => H' = [] ∧ y = .v (.c (.fz (.lit (.slice none 0 0)))) := by
  refine ecalls k_WDone ?_
  simp [c_WDone, NP]
  exact fin [] (by simp) rfl rfl rfl ⟨rfl, rfl⟩

end Go.Proofs.YtpilpjameifcfaaGreatDoor

namespace Go.Proofs.YtpilpjameifcfaaGreatDoor
open Go Go.EW
set_option linter.unusedSimpArgs false

@[simp] def l_Read_1 (_ : Unit) : List EOp := [⟨0, (some 2), none, (.q (.mov (.k (.pointer none)))), []⟩]
@[simp] def b_Read_2 (_ : Unit) : EB := reg0 (hid l_Read_1) 1
@[simp] def l_Read_3 (_ : Unit) : List EOp := [⟨0, (some 3), none, (.q (.mov (.t 0))), []⟩, ⟨1, (some 4), none, (.q (.build [(.slice none 0 0), (.int .i64 0), .nilIface] [(0, 1, (.t 3))])), []⟩, ⟨2, (some 5), none, (.q (.box 157 (.t 4))), []⟩, ⟨3, (some 2), none, (.q (.mov (.t 5))), []⟩]
@[simp] def b_Read_4 (_ : Unit) : EB := reg0 (hid l_Read_3) 4
@[simp] def b_Read_5 (_ : Unit) : EB := .seq (hid b_Read_4) .ret
@[simp] def b_Read_6 (_ : Unit) : EB := .seq (hid b_Read_2) (hid b_Read_5)
def c_Read : EB × List QOp × Nat := ((hid b_Read_6), [(.mov (.t 2))], 6)
theorem k_Read : cfun Tryz.prog 42 = some c_Read := by kernel_rfl

@[simp] def l_off_1 (_ : Unit) : List EOp := [⟨0, (some 2), none, (.q (.mov (.k (.bool false)))), []⟩]
@[simp] def b_off_2 (_ : Unit) : EB := reg0 (hid l_off_1) 1
@[simp] def l_off_4 (_ : Unit) : List EOp := [⟨6, (some 9), (some (5, false)), (.q (.ldc (.t 8))), []⟩, ⟨7, (some 10), (some (5, false)), (.q (.eqi true (.t 9))), []⟩, ⟨8, (some 11), none, (.q (.pick (.t 5) (.k (.bool true)) (.t 10))), []⟩, ⟨9, (some 2), none, (.q (.mov (.t 11))), []⟩]
@[simp] def l_off_3 (_ : Unit) : List EOp := ⟨0, (some 3), none, (.q (.mov (.t 0))), []⟩ :: ⟨1, (some 4), none, (.q (.eqp false (.t 3))), []⟩ :: ⟨2, (some 5), none, (.q (.mov (.t 4))), []⟩ :: ⟨3, (some 6), (some (5, false)), (.q (.mov (.t 0))), []⟩ :: ⟨4, (some 7), (some (5, false)), (.q (.nilc (.t 6))), []⟩ :: ⟨5, (some 8), (some (5, false)), (.q (.fad 2 (.t 7))), []⟩ :: hid l_off_4
@[simp] def b_off_5 (_ : Unit) : EB := reg0 (hid l_off_3) 10
@[simp] def b_off_6 (_ : Unit) : EB := .seq (hid b_off_5) .ret
@[simp] def b_off_7 (_ : Unit) : EB := .seq (hid b_off_2) (hid b_off_6)
def c_off : EB × List QOp × Nat := ((hid b_off_7), [(.mov (.t 2))], 12)
theorem k_off : cfun Tryz.prog 86 = some c_off := by kernel_rfl

@[simp] def l_rest_1 (_ : Unit) : List EOp := [⟨0, (some 2), none, (.q (.mov (.k (.slice none 0 0)))), []⟩]
@[simp] def b_rest_2 (_ : Unit) : EB := reg0 (hid l_rest_1) 1
@[simp] def l_rest_4 (_ : Unit) : List EOp := [⟨6, (some 9), none, (.q (.fad 1 (.t 8))), []⟩, ⟨7, (some 10), none, (.q (.ldc (.t 9))), []⟩, ⟨8, (some 11), none, (.q (.ssl 1 (.t 6) (some (.t 10)) none)), []⟩, ⟨9, (some 2), none, (.q (.mov (.t 11))), []⟩]
@[simp] def l_rest_3 (_ : Unit) : List EOp := ⟨0, (some 3), none, (.q (.mov (.t 0))), []⟩ :: ⟨1, (some 4), none, (.q (.nilc (.t 3))), []⟩ :: ⟨2, (some 5), none, (.q (.fad 0 (.t 4))), []⟩ :: ⟨3, (some 6), none, (.q (.ldc (.t 5))), []⟩ :: ⟨4, (some 7), none, (.q (.mov (.t 0))), []⟩ :: ⟨5, (some 8), none, (.q (.nilc (.t 7))), []⟩ :: hid l_rest_4
@[simp] def b_rest_5 (_ : Unit) : EB := reg0 (hid l_rest_3) 10
@[simp] def b_rest_6 (_ : Unit) : EB := .seq (hid b_rest_5) .ret
@[simp] def b_rest_7 (_ : Unit) : EB := .seq (hid b_rest_2) (hid b_rest_6)
def c_rest : EB × List QOp × Nat := ((hid b_rest_7), [(.mov (.t 2))], 12)
theorem k_rest : cfun Tryz.prog 87 = some c_rest := by kernel_rfl

@[simp] def l_fail_1 (_ : Unit) : List EOp := [⟨0, (some 4), none, (.q (.mov (.t 0))), []⟩, ⟨1, (some 5), none, (.q (.nilc (.t 4))), []⟩, ⟨2, (some 6), none, (.q (.fad 2 (.t 5))), []⟩, ⟨3, (some 7), none, (.q (.ldc (.t 6))), []⟩, ⟨4, (some 8), none, (.q (.eqi false (.t 7))), []⟩]
@[simp] def b_fail_2 (_ : Unit) : EB := reg0 (hid l_fail_1) 5
@[simp] def l_fail_3 (_ : Unit) : List EOp := [⟨0, (some 9), none, (.q (.mov (.t 0))), []⟩, ⟨1, (some 10), none, (.q (.mov (.t 1))), []⟩, ⟨2, (some 11), none, (.q (.nilc (.t 9))), []⟩, ⟨3, (some 12), none, (.q (.fad 2 (.t 11))), []⟩, ⟨4, none, none, (.sto 1 (.t 12) (.t 10)), []⟩]
@[simp] def b_fail_4 (_ : Unit) : EB := reg0 (hid l_fail_3) 5
@[simp] def b_fail_5 (_ : Unit) : EB := .cond (.t 8) (hid b_fail_4) .skip
@[simp] def b_fail_6 (_ : Unit) : EB := .seq (hid b_fail_2) (hid b_fail_5)
def c_fail : EB × List QOp × Nat := ((hid b_fail_6), [], 13)
theorem k_fail : cfun Tryz.prog 88 = some c_fail := by kernel_rfl

@[simp] def l_low_1 (_ : Unit) : List EOp := [⟨0, (some 6), none, (.q (.mov (.k (.int .u64 0)))), []⟩, ⟨1, (some 7), none, (.q (.mov (.k .nilIface))), []⟩]
@[simp] def b_low_2 (_ : Unit) : EB := reg0 (hid l_low_1) 2
@[simp] def l_low_3 (_ : Unit) : List EOp := [⟨0, (some 12), none, (.q (.mov (.t 0))), []⟩, ⟨1, (some 13), none, (.call 87 [(.t 12)]), []⟩, ⟨2, (some 14), none, (.q (.ssl 1 (.t 13) (some (.k (.int .i64 1))) none)), []⟩, ⟨3, (some 8), none, (.q (.mov (.t 14))), []⟩]
@[simp] def b_low_4 (_ : Unit) : EB := reg0 (hid l_low_3) 4
@[simp] def l_low_5 (_ : Unit) : List EOp := [⟨0, (some 15), none, (.q (.mov (.t 8))), []⟩, ⟨1, (some 16), none, (.q (.len (.t 15))), []⟩, ⟨2, (some 17), none, (.q (.mov (.t 1))), []⟩, ⟨3, (some 18), none, (.q (.bin .lss (.t 16) (.t 17))), []⟩]
@[simp] def b_low_6 (_ : Unit) : EB := reg0 (hid l_low_5) 4
@[simp] def l_low_7 (_ : Unit) : List EOp := [⟨0, (some 19), none, (.q (.mki 77 (.k (.int .i64 12)))), []⟩, ⟨1, (some 6), none, (.q (.mov (.k (.int .u64 0)))), []⟩, ⟨2, (some 7), none, (.q (.mov (.t 19))), []⟩]
@[simp] def b_low_8 (_ : Unit) : EB := reg0 (hid l_low_7) 3
@[simp] def b_low_9 (_ : Unit) : EB := .seq (hid b_low_8) .ret
@[simp] def b_low_10 (_ : Unit) : EB := .cond (.t 18) (hid b_low_9) .skip
@[simp] def b_low_11 (_ : Unit) : EB := .seq (hid b_low_6) (hid b_low_10)
@[simp] def l_low_13 (_ : Unit) : List EOp := [⟨6, (some 26), (some (22, true)), (.q (.mov (.t 2))), []⟩, ⟨7, (some 27), (some (22, true)), (.q (.bin .eql (.t 25) (.t 26))), []⟩, ⟨8, (some 28), none, (.q (.pick (.t 22) (.t 27) (.k (.bool false)))), []⟩]
@[simp] def l_low_12 (_ : Unit) : List EOp := ⟨0, (some 20), none, (.q (.mov (.t 1))), []⟩ :: ⟨1, (some 21), none, (.q (.bin .gtr (.t 20) (.k (.int .i64 0)))), []⟩ :: ⟨2, (some 22), none, (.q (.mov (.t 21))), []⟩ :: ⟨3, (some 23), (some (22, true)), (.q (.mov (.t 8))), []⟩ :: ⟨4, (some 24), (some (22, true)), (.q (.isl 1 (.t 23) (.k (.int .i64 0)))), []⟩ :: ⟨5, (some 25), (some (22, true)), (.q (.ldc (.t 24))), []⟩ :: hid l_low_13
@[simp] def b_low_14 (_ : Unit) : EB := reg0 (hid l_low_12) 9
@[simp] def l_low_15 (_ : Unit) : List EOp := [⟨0, (some 29), none, (.q (.mki 77 (.k (.int .i64 3)))), []⟩, ⟨1, (some 6), none, (.q (.mov (.k (.int .u64 0)))), []⟩, ⟨2, (some 7), none, (.q (.mov (.t 29))), []⟩]
@[simp] def b_low_16 (_ : Unit) : EB := reg0 (hid l_low_15) 3
@[simp] def b_low_17 (_ : Unit) : EB := .seq (hid b_low_16) .ret
@[simp] def b_low_18 (_ : Unit) : EB := .cond (.t 28) (hid b_low_17) .skip
@[simp] def b_low_19 (_ : Unit) : EB := .seq (hid b_low_14) (hid b_low_18)
@[simp] def l_low_20 (_ : Unit) : List EOp := [⟨0, (some 9), none, (.q (.mov (.k (.int .u64 0)))), []⟩]
@[simp] def b_low_21 (_ : Unit) : EB := reg0 (hid l_low_20) 1
@[simp] def l_low_22 (_ : Unit) : List EOp := [⟨0, (some 30), none, (.q (.mov (.t 8))), []⟩, ⟨1, (some 31), none, (.q (.mov (.t 1))), []⟩, ⟨2, (some 32), none, (.q (.ssl 1 (.t 30) none (some (.t 31)))), []⟩, ⟨3, (some 33), none, (.q (.len (.t 32))), []⟩, ⟨4, (some 34), none, (.q (.mov (.k (.int .i64 0)))), []⟩]
@[simp] def b_low_23 (_ : Unit) : EB := reg0 (hid l_low_22) 5
@[simp] def l_low_24 (_ : Unit) : List EOp := [⟨0, (some 35), none, (.q (.bin .lss (.t 34) (.t 33))), []⟩]
@[simp] def b_low_25 (_ : Unit) : EB := reg0 (hid l_low_24) 1
@[simp] def b_low_26 (_ : Unit) : EB := .cond (.t 35) .skip (.exit 0)
@[simp] def l_low_27 (_ : Unit) : List EOp := [⟨0, (some 36), none, (.q (.isl 1 (.t 32) (.t 34))), []⟩, ⟨1, (some 37), none, (.q (.ldc (.t 36))), []⟩, ⟨2, (some 11), none, (.q (.mov (.t 37))), []⟩]
@[simp] def b_low_28 (_ : Unit) : EB := reg0 (hid l_low_27) 3
@[simp] def l_low_30 (_ : Unit) : List EOp := [⟨6, (some 44), none, (.q (.bin .or (.t 39) (.t 43))), []⟩, ⟨7, (some 9), none, (.q (.mov (.t 44))), []⟩]
@[simp] def l_low_29 (_ : Unit) : List EOp := ⟨0, (some 38), none, (.q (.mov (.t 9))), []⟩ :: ⟨1, (some 39), none, (.q (.bin .shl (.t 38) (.k (.int .u64 8)))), []⟩ :: ⟨2, (some 40), none, (.q (.mov (.t 11))), []⟩ :: ⟨3, (some 41), none, (.q (.mov (.t 2))), []⟩ :: ⟨4, (some 42), none, (.q (.bin .xor (.t 40) (.t 41))), []⟩ :: ⟨5, (some 43), none, (.q (.cnv .u64 (.t 42))), []⟩ :: hid l_low_30
@[simp] def b_low_31 (_ : Unit) : EB := reg0 (hid l_low_29) 8
@[simp] def b_low_32 (_ : Unit) : EB := .seq (hid b_low_28) (hid b_low_31)
@[simp] def b_low_33 (_ : Unit) : EB := .block 1 (hid b_low_32)
@[simp] def l_low_34 (_ : Unit) : List EOp := [⟨0, (some 45), none, (.q (.bin .add (.t 34) (.k (.int .i64 1)))), []⟩, ⟨1, (some 34), none, (.q (.mov (.t 45))), []⟩]
@[simp] def b_low_35 (_ : Unit) : EB := reg0 (hid l_low_34) 2
@[simp] def b_low_36 (_ : Unit) : EB := .seq (hid b_low_33) (hid b_low_35)
@[simp] def b_low_37 (_ : Unit) : EB := .seq (hid b_low_26) (hid b_low_36)
@[simp] def b_low_38 (_ : Unit) : EB := .seq (hid b_low_25) (hid b_low_37)
@[simp] def b_low_39 (_ : Unit) : EB := .loop (hid b_low_38)
@[simp] def b_low_40 (_ : Unit) : EB := .block 0 (hid b_low_39)
@[simp] def b_low_41 (_ : Unit) : EB := .seq (hid b_low_23) (hid b_low_40)
@[simp] def l_low_42 (_ : Unit) : List EOp := [⟨0, (some 46), none, (.q (.mov (.t 9))), []⟩, ⟨1, (some 6), none, (.q (.mov (.t 46))), []⟩, ⟨2, (some 7), none, (.q (.mov (.k .nilIface))), []⟩]
@[simp] def b_low_43 (_ : Unit) : EB := reg0 (hid l_low_42) 3
@[simp] def b_low_44 (_ : Unit) : EB := .seq (hid b_low_43) .ret
@[simp] def b_low_45 (_ : Unit) : EB := .seq (hid b_low_41) (hid b_low_44)
@[simp] def b_low_46 (_ : Unit) : EB := .seq (hid b_low_21) (hid b_low_45)
@[simp] def b_low_47 (_ : Unit) : EB := .seq (hid b_low_19) (hid b_low_46)
@[simp] def b_low_48 (_ : Unit) : EB := .seq (hid b_low_11) (hid b_low_47)
@[simp] def b_low_49 (_ : Unit) : EB := .seq (hid b_low_4) (hid b_low_48)
@[simp] def b_low_50 (_ : Unit) : EB := .seq (hid b_low_2) (hid b_low_49)
def c_low : EB × List QOp × Nat := ((hid b_low_50), [(.mov (.t 6)), (.mov (.t 7))], 47)
theorem k_low : cfun Tryz.prog 89 = some c_low := by kernel_rfl

@[simp] def l_RdInt_1 (_ : Unit) : List EOp := [⟨0, (some 2), none, (.q (.mov (.k (.int .i64 0)))), []⟩]
@[simp] def b_RdInt_2 (_ : Unit) : EB := reg0 (hid l_RdInt_1) 1
@[simp] def l_RdInt_3 (_ : Unit) : List EOp := [⟨0, (some 8), none, (.q (.mov (.t 0))), []⟩, ⟨1, (some 9), none, (.call 86 [(.t 8)]), []⟩]
@[simp] def b_RdInt_4 (_ : Unit) : EB := reg0 (hid l_RdInt_3) 2
@[simp] def l_RdInt_5 (_ : Unit) : List EOp := [⟨0, (some 2), none, (.q (.mov (.k (.int .i64 0)))), []⟩]
@[simp] def b_RdInt_6 (_ : Unit) : EB := reg0 (hid l_RdInt_5) 1
@[simp] def b_RdInt_7 (_ : Unit) : EB := .seq (hid b_RdInt_6) .ret
@[simp] def b_RdInt_8 (_ : Unit) : EB := .cond (.t 9) (hid b_RdInt_7) .skip
@[simp] def b_RdInt_9 (_ : Unit) : EB := .seq (hid b_RdInt_4) (hid b_RdInt_8)
@[simp] def l_RdInt_10 (_ : Unit) : List EOp := [⟨0, (some 10), none, (.q (.mov (.t 0))), []⟩, ⟨1, (some 11), none, (.call 87 [(.t 10)]), []⟩, ⟨2, (some 3), none, (.q (.mov (.t 11))), []⟩]
@[simp] def b_RdInt_11 (_ : Unit) : EB := reg0 (hid l_RdInt_10) 3
@[simp] def l_RdInt_12 (_ : Unit) : List EOp := [⟨0, (some 12), none, (.q (.mov (.t 3))), []⟩, ⟨1, (some 13), none, (.q (.len (.t 12))), []⟩, ⟨2, (some 14), none, (.q (.bin .eql (.t 13) (.k (.int .i64 0)))), []⟩]
@[simp] def b_RdInt_13 (_ : Unit) : EB := reg0 (hid l_RdInt_12) 3
@[simp] def l_RdInt_14 (_ : Unit) : List EOp := [⟨0, (some 15), none, (.q (.mov (.t 0))), []⟩, ⟨1, (some 16), none, (.q (.mki 77 (.k (.int .i64 12)))), []⟩, ⟨2, (some 17), none, (.call 88 [(.t 15), (.t 16)]), []⟩]
@[simp] def b_RdInt_15 (_ : Unit) : EB := reg0 (hid l_RdInt_14) 3
@[simp] def l_RdInt_16 (_ : Unit) : List EOp := [⟨0, (some 2), none, (.q (.mov (.k (.int .i64 0)))), []⟩]
@[simp] def b_RdInt_17 (_ : Unit) : EB := reg0 (hid l_RdInt_16) 1
@[simp] def b_RdInt_18 (_ : Unit) : EB := .seq (hid b_RdInt_17) .ret
@[simp] def b_RdInt_19 (_ : Unit) : EB := .seq (hid b_RdInt_15) (hid b_RdInt_18)
@[simp] def b_RdInt_20 (_ : Unit) : EB := .cond (.t 14) (hid b_RdInt_19) .skip
@[simp] def b_RdInt_21 (_ : Unit) : EB := .seq (hid b_RdInt_13) (hid b_RdInt_20)
@[simp] def l_RdInt_23 (_ : Unit) : List EOp := [⟨6, (some 5), none, (.q (.mov (.k (.int .u8 0)))), []⟩]
@[simp] def l_RdInt_22 (_ : Unit) : List EOp := ⟨0, (some 18), none, (.q (.mov (.t 3))), []⟩ :: ⟨1, (some 19), none, (.q (.isl 1 (.t 18) (.k (.int .i64 0)))), []⟩ :: ⟨2, (some 20), none, (.q (.ldc (.t 19))), []⟩ :: ⟨3, (some 21), none, (.q (.cnv .i64 (.t 20))), []⟩ :: ⟨4, (some 22), none, (.q (.bin .sub (.t 21) (.k (.int .i64 128)))), []⟩ :: ⟨5, (some 4), none, (.q (.mov (.t 22))), []⟩ :: hid l_RdInt_23
@[simp] def b_RdInt_24 (_ : Unit) : EB := reg0 (hid l_RdInt_22) 7
@[simp] def l_RdInt_25 (_ : Unit) : List EOp := [⟨0, (some 23), none, (.q (.mov (.t 4))), []⟩, ⟨1, (some 24), none, (.q (.bin .lss (.t 23) (.k (.int .i64 0)))), []⟩]
@[simp] def b_RdInt_26 (_ : Unit) : EB := reg0 (hid l_RdInt_25) 2
@[simp] def l_RdInt_27 (_ : Unit) : List EOp := [⟨0, (some 25), none, (.q (.mov (.t 4))), []⟩, ⟨1, (some 26), none, (.q (.bin .sub (.k (.int .i64 (-1))) (.t 25))), []⟩, ⟨2, (some 4), none, (.q (.mov (.t 26))), []⟩, ⟨3, (some 5), none, (.q (.mov (.k (.int .u8 255)))), []⟩]
@[simp] def b_RdInt_28 (_ : Unit) : EB := reg0 (hid l_RdInt_27) 4
@[simp] def b_RdInt_29 (_ : Unit) : EB := .cond (.t 24) (hid b_RdInt_28) .skip
@[simp] def b_RdInt_30 (_ : Unit) : EB := .seq (hid b_RdInt_26) (hid b_RdInt_29)
@[simp] def l_RdInt_31 (_ : Unit) : List EOp := [⟨0, (some 27), none, (.q (.mov (.t 4))), []⟩, ⟨1, (some 28), none, (.q (.bin .gtr (.t 27) (.k (.int .i64 8)))), []⟩]
@[simp] def b_RdInt_32 (_ : Unit) : EB := reg0 (hid l_RdInt_31) 2
@[simp] def l_RdInt_33 (_ : Unit) : List EOp := [⟨0, (some 29), none, (.q (.mov (.t 0))), []⟩, ⟨1, (some 30), none, (.q (.mki 77 (.k (.int .i64 3)))), []⟩, ⟨2, (some 31), none, (.call 88 [(.t 29), (.t 30)]), []⟩]
@[simp] def b_RdInt_34 (_ : Unit) : EB := reg0 (hid l_RdInt_33) 3
@[simp] def l_RdInt_35 (_ : Unit) : List EOp := [⟨0, (some 2), none, (.q (.mov (.k (.int .i64 0)))), []⟩]
@[simp] def b_RdInt_36 (_ : Unit) : EB := reg0 (hid l_RdInt_35) 1
@[simp] def b_RdInt_37 (_ : Unit) : EB := .seq (hid b_RdInt_36) .ret
@[simp] def b_RdInt_38 (_ : Unit) : EB := .seq (hid b_RdInt_34) (hid b_RdInt_37)
@[simp] def b_RdInt_39 (_ : Unit) : EB := .cond (.t 28) (hid b_RdInt_38) .skip
@[simp] def b_RdInt_40 (_ : Unit) : EB := .seq (hid b_RdInt_32) (hid b_RdInt_39)
@[simp] def l_RdInt_42 (_ : Unit) : List EOp := [⟨6, (some 38), none, (.q (.ext 1 (.t 32))), []⟩, ⟨7, (some 6), none, (.q (.mov (.t 37))), []⟩, ⟨8, (some 7), none, (.q (.mov (.t 38))), []⟩]
@[simp] def l_RdInt_41 (_ : Unit) : List EOp := ⟨0, (some 33), none, (.q (.mov (.t 0))), []⟩ :: ⟨1, (some 34), none, (.q (.mov (.t 4))), []⟩ :: ⟨2, (some 35), none, (.q (.mov (.t 5))), []⟩ :: ⟨3, (some 36), none, (.call 89 [(.t 33), (.t 34), (.t 35)]), []⟩ :: ⟨4, (some 32), none, (.q (.mov (.t 36))), []⟩ :: ⟨5, (some 37), none, (.q (.ext 0 (.t 32))), []⟩ :: hid l_RdInt_42
@[simp] def b_RdInt_43 (_ : Unit) : EB := reg0 (hid l_RdInt_41) 9
@[simp] def l_RdInt_44 (_ : Unit) : List EOp := [⟨0, (some 39), none, (.q (.mov (.t 7))), []⟩, ⟨1, (some 40), none, (.q (.eqi false (.t 39))), []⟩, ⟨2, (some 41), none, (.q (.mov (.t 40))), []⟩, ⟨3, (some 42), (some (41, true)), (.q (.mov (.t 6))), []⟩, ⟨4, (some 43), (some (41, true)), (.q (.bin .gtr (.t 42) (.k (.int .u64 9223372036854775807)))), []⟩, ⟨5, (some 44), none, (.q (.pick (.t 41) (.t 43) (.k (.bool false)))), []⟩]
@[simp] def b_RdInt_45 (_ : Unit) : EB := reg0 (hid l_RdInt_44) 6
@[simp] def l_RdInt_46 (_ : Unit) : List EOp := [⟨0, (some 45), none, (.q (.mki 77 (.k (.int .i64 4)))), []⟩, ⟨1, (some 7), none, (.q (.mov (.t 45))), []⟩]
@[simp] def b_RdInt_47 (_ : Unit) : EB := reg0 (hid l_RdInt_46) 2
@[simp] def b_RdInt_48 (_ : Unit) : EB := .cond (.t 44) (hid b_RdInt_47) .skip
@[simp] def b_RdInt_49 (_ : Unit) : EB := .seq (hid b_RdInt_45) (hid b_RdInt_48)
@[simp] def l_RdInt_50 (_ : Unit) : List EOp := [⟨0, (some 46), none, (.q (.mov (.t 7))), []⟩, ⟨1, (some 47), none, (.q (.eqi true (.t 46))), []⟩]
@[simp] def b_RdInt_51 (_ : Unit) : EB := reg0 (hid l_RdInt_50) 2
@[simp] def l_RdInt_52 (_ : Unit) : List EOp := [⟨0, (some 48), none, (.q (.mov (.t 0))), []⟩, ⟨1, (some 49), none, (.q (.mov (.t 7))), []⟩, ⟨2, (some 50), none, (.call 88 [(.t 48), (.t 49)]), []⟩]
@[simp] def b_RdInt_53 (_ : Unit) : EB := reg0 (hid l_RdInt_52) 3
@[simp] def l_RdInt_54 (_ : Unit) : List EOp := [⟨0, (some 2), none, (.q (.mov (.k (.int .i64 0)))), []⟩]
@[simp] def b_RdInt_55 (_ : Unit) : EB := reg0 (hid l_RdInt_54) 1
@[simp] def b_RdInt_56 (_ : Unit) : EB := .seq (hid b_RdInt_55) .ret
@[simp] def b_RdInt_57 (_ : Unit) : EB := .seq (hid b_RdInt_53) (hid b_RdInt_56)
@[simp] def b_RdInt_58 (_ : Unit) : EB := .cond (.t 47) (hid b_RdInt_57) .skip
@[simp] def b_RdInt_59 (_ : Unit) : EB := .seq (hid b_RdInt_51) (hid b_RdInt_58)
@[simp] def l_RdInt_61 (_ : Unit) : List EOp := [⟨6, (some 57), none, (.q (.bin .add (.t 54) (.t 56))), []⟩, ⟨7, (some 58), none, (.q (.nilc (.t 51))), []⟩, ⟨8, (some 59), none, (.q (.fad 1 (.t 58))), []⟩, ⟨9, none, none, (.sto 1 (.t 59) (.t 57)), []⟩]
@[simp] def l_RdInt_60 (_ : Unit) : List EOp := ⟨0, (some 51), none, (.q (.mov (.t 0))), []⟩ :: ⟨1, (some 52), none, (.q (.nilc (.t 51))), []⟩ :: ⟨2, (some 53), none, (.q (.fad 1 (.t 52))), []⟩ :: ⟨3, (some 54), none, (.q (.ldc (.t 53))), []⟩ :: ⟨4, (some 55), none, (.q (.mov (.t 4))), []⟩ :: ⟨5, (some 56), none, (.q (.bin .add (.k (.int .i64 1)) (.t 55))), []⟩ :: hid l_RdInt_61
@[simp] def b_RdInt_62 (_ : Unit) : EB := reg0 (hid l_RdInt_60) 10
@[simp] def l_RdInt_63 (_ : Unit) : List EOp := [⟨0, (some 60), none, (.q (.mov (.t 5))), []⟩, ⟨1, (some 61), none, (.q (.bin .eql (.t 60) (.k (.int .u8 0)))), []⟩]
@[simp] def b_RdInt_64 (_ : Unit) : EB := reg0 (hid l_RdInt_63) 2
@[simp] def l_RdInt_65 (_ : Unit) : List EOp := [⟨0, (some 62), none, (.q (.mov (.t 6))), []⟩, ⟨1, (some 63), none, (.q (.cnv .i64 (.t 62))), []⟩, ⟨2, (some 2), none, (.q (.mov (.t 63))), []⟩]
@[simp] def b_RdInt_66 (_ : Unit) : EB := reg0 (hid l_RdInt_65) 3
@[simp] def b_RdInt_67 (_ : Unit) : EB := .seq (hid b_RdInt_66) .ret
@[simp] def b_RdInt_68 (_ : Unit) : EB := .cond (.t 61) (hid b_RdInt_67) .skip
@[simp] def b_RdInt_69 (_ : Unit) : EB := .seq (hid b_RdInt_64) (hid b_RdInt_68)
@[simp] def l_RdInt_70 (_ : Unit) : List EOp := [⟨0, (some 64), none, (.q (.mov (.t 6))), []⟩, ⟨1, (some 65), none, (.q (.cnv .i64 (.t 64))), []⟩, ⟨2, (some 66), none, (.q (.un .xor (.t 65))), []⟩, ⟨3, (some 2), none, (.q (.mov (.t 66))), []⟩]
@[simp] def b_RdInt_71 (_ : Unit) : EB := reg0 (hid l_RdInt_70) 4
@[simp] def b_RdInt_72 (_ : Unit) : EB := .seq (hid b_RdInt_71) .ret
@[simp] def b_RdInt_73 (_ : Unit) : EB := .seq (hid b_RdInt_69) (hid b_RdInt_72)
@[simp] def b_RdInt_74 (_ : Unit) : EB := .seq (hid b_RdInt_62) (hid b_RdInt_73)
@[simp] def b_RdInt_75 (_ : Unit) : EB := .seq (hid b_RdInt_59) (hid b_RdInt_74)
@[simp] def b_RdInt_76 (_ : Unit) : EB := .seq (hid b_RdInt_49) (hid b_RdInt_75)
@[simp] def b_RdInt_77 (_ : Unit) : EB := .seq (hid b_RdInt_43) (hid b_RdInt_76)
@[simp] def b_RdInt_78 (_ : Unit) : EB := .seq (hid b_RdInt_40) (hid b_RdInt_77)
@[simp] def b_RdInt_79 (_ : Unit) : EB := .seq (hid b_RdInt_30) (hid b_RdInt_78)
@[simp] def b_RdInt_80 (_ : Unit) : EB := .seq (hid b_RdInt_24) (hid b_RdInt_79)
@[simp] def b_RdInt_81 (_ : Unit) : EB := .seq (hid b_RdInt_21) (hid b_RdInt_80)
@[simp] def b_RdInt_82 (_ : Unit) : EB := .seq (hid b_RdInt_11) (hid b_RdInt_81)
@[simp] def b_RdInt_83 (_ : Unit) : EB := .seq (hid b_RdInt_9) (hid b_RdInt_82)
@[simp] def b_RdInt_84 (_ : Unit) : EB := .seq (hid b_RdInt_2) (hid b_RdInt_83)
def c_RdInt : EB × List QOp × Nat := ((hid b_RdInt_84), [(.mov (.t 2))], 67)
theorem k_RdInt : cfun Tryz.prog 43 = some c_RdInt := by kernel_rfl


/-- An error, by its number. -/
def errV (e : Nat) : Value := if e = 0 then .nilIface else .iface 77 (.int .i64 e)
@[simp] theorem eqiv_errV (e : Nat) : eqiv (errV e) = some (decide (e = 0)) := by
  unfold errV
  split <;> simp [eqiv, *]
@[simp] theorem cst_errV (e : Nat) : cst (errV e) = .v (.c (.fz (.lit (errV e)))) := by
  unfold errV
  split <;> rfl
@[simp] theorem errV_0 : Value.nilIface = errV 0 := rfl
@[simp] theorem errV_1 : Value.iface 77 (.int .i64 1) = errV 1 := rfl
@[simp] theorem errV_2 : Value.iface 77 (.int .i64 2) = errV 2 := rfl
@[simp] theorem errV_3 : Value.iface 77 (.int .i64 3) = errV 3 := rfl
@[simp] theorem errV_4 : Value.iface 77 (.int .i64 4) = errV 4 := rfl
@[simp] theorem errV_12 : Value.iface 77 (.int .i64 12) = errV 12 := rfl

/-- A reader: its line, its place, its error. -/
def RdO (l : List UInt8) (at' e : Nat) : EO := .box 157 [.fz (.sl 1 (bsv l)), .fz (.lit (.int .i64 at')), .fz (.lit (errV e))]

theorem Read_ok (l : List UInt8) : ECalls Tryz.prog 42 [Bs l] [] fun y H' => H' = [some (RdO l 0 0)] ∧ y = Ptr 0 := by
  refine ecalls k_Read ?_
  simp [c_Read, Bs, litc, -errV_0]
  exact fin [48] (by decide) rfl rfl rfl ⟨rfl, rfl⟩

theorem off_ok (l : List UInt8) (p e : Nat) : ECalls Tryz.prog 86 [Ptr 0] [RdO l p e] fun y H' => H' = [some (RdO l p e)] ∧ y = .lit (.bool (decide (e ≠ 0))) := by
  refine ecalls k_off ?_
  simp [c_off, Ptr, RdO]
  exact fin [] (by decide) rfl rfl rfl ⟨rfl, by simp⟩

theorem off_nil : ECalls Tryz.prog 86 [NP] [] fun y H' => H' = [] ∧ y = .lit (.bool true) := by
  refine ecalls k_off ?_
  simp [c_off, NP]
  exact fin [] (by decide) rfl rfl rfl ⟨rfl, rfl⟩

theorem rest_ok (l : List UInt8) (p e : Nat) (hp : p ≤ l.length) : ECalls Tryz.prog 87 [Ptr 0] [RdO l p e] fun y H' => H' = [some (RdO l p e)] ∧ y = Bs (l.drop p) := by
  refine ecalls k_rest ?_
  simp [c_rest, Ptr, RdO]
  exact ⟨by omega, fin [] (by decide) rfl rfl rfl ⟨rfl, rfl⟩⟩

theorem fail_ok (l : List UInt8) (p e k : Nat) : ECalls Tryz.prog 88 [Ptr 0, .lit (errV k)] [RdO l p e] fun y H' => H' = [some (RdO l p (if e = 0 then k else e))] ∧ y = .tup [] := by
  refine ecalls k_fail ?_
  simp [c_fail, Ptr, RdO]
  refine alt (fun h => ?_) (fun h => ?_)
  · simp
    exact fin [] (by decide) rfl rfl rfl ⟨by simp [h], rfl⟩
  · simp
    exact fin [] (by decide) rfl rfl rfl ⟨by simp [h], rfl⟩

/-- Bytes as a number. -/
def valB (l : List UInt8) : Nat := l.foldl (fun n c => 256 * n + c.toNat) 0
/-- So many bytes, each turned: the number; an error. -/
def lowS (b : List UInt8) (many : Nat) (mask : UInt8) : Nat × Nat :=
  if b.length < many then (0, 12) else if 0 < many ∧ b[0]? = some mask then (0, 3) else (valB ((b.take many).map (· ^^^ mask)), 0)
theorem val_snoc (l : List UInt8) (c : UInt8) : valB (l ++ [c]) = 256 * valB l + c.toNat := by simp [valB]
theorem val_lt (l : List UInt8) : valB l < 256 ^ l.length := by
  have key : ∀ (l : List UInt8) (n k : Nat), n < 256 ^ k → l.foldl (fun n c => 256 * n + c.toNat) n < 256 ^ (k + l.length) := by
    intro l
    induction l with
    | nil => intro n k h; simpa using h
    | cons c r ih =>
      intro n k h
      have hc := c.toNat_lt
      have := ih (256 * n + c.toNat) (k + 1) (by rw [Nat.pow_succ]; simp at hc; omega)
      rw [List.foldl_cons, List.length_cons, show k + (r.length + 1) = k + 1 + r.length by omega]
      exact this
  have := key l 0 0 (by simp)
  simpa [valB] using this
theorem or_byte (n : Nat) (c : UInt8) (h : 256 * n + 256 ≤ 18446744073709551616) : ibit .or .u64 (ishl .u64 (n : Int) 8) (c.toNat : Int) = ((256 * n + c.toNat : Nat) : Int) := by
  have hc := c.toNat_lt
  simp at hc
  have e1 : ishl .u64 (n : Int) 8 = ((256 * n : Nat) : Int) := by
    simp only [ishl]
    rw [show min (8 : Int).toNat IntKind.u64.bits = 8 from rfl, wrap_u64 (by omega) (by omega)]
    omega
  rw [e1]
  simp only [ibit]
  have e2 : (BitVec.ofInt IntKind.u64.bits ((256 * n : Nat) : Int) ||| BitVec.ofInt IntKind.u64.bits (c.toNat : Int)).toNat = 256 * n + c.toNat := by
    rw [BitVec.toNat_or, BitVec.ofInt_natCast, BitVec.ofInt_natCast, BitVec.toNat_ofNat, BitVec.toNat_ofNat, Nat.mod_eq_of_lt (show 256 * n < 2 ^ IntKind.u64.bits by simp [IntKind.bits]; omega), Nat.mod_eq_of_lt (show c.toNat < 2 ^ IntKind.u64.bits by simp [IntKind.bits]; omega)]
    have := Nat.shiftLeft_add_eq_or_of_lt (b := c.toNat) (i := 8) (by omega) n
    rw [Nat.shiftLeft_eq] at this
    rw [show 256 * n = n * 2 ^ 8 by omega]
    exact this.symm
  rw [e2, wrap_u64 (by omega) (by omega)]

theorem low_ok (l : List UInt8) (p e many : Nat) (mask : UInt8) (hp : p < l.length) (hm : many ≤ 8) :
    ECalls Tryz.prog 89 [Ptr 0, I .i64 many, I .u8 mask.toNat] [RdO l p e] fun y H' => H' = [some (RdO l p e)] ∧ y = .tup [.c (.fz (.lit (.int .u64 (lowS (l.drop (p + 1)) many mask).1))), .c (.fz (.lit (errV (lowS (l.drop (p + 1)) many mask).2)))] := by
  refine ecalls k_low ?_
  simp [c_low, Ptr, I]
  refine callH [0] (rest_ok l p e (by omega)) (by simp [Ptr]) (by simp [RdO]) (by simp) (by simp) (by simp) ?_
  rintro y H' ⟨rfl, rfl⟩
  refine ⟨.inl rfl, le_ok rfl, ?_⟩
  obtain ⟨b, hb⟩ : ∃ b, l.drop (p + 1) = b := ⟨_, rfl⟩
  have ht : List.take (l.length - p) (List.drop p l) = List.drop p l := List.take_of_length_le (by rw [List.length_drop]; exact Nat.le_refl _)
  simp [RdO, Bs, ht, hb]
  have hbl : b.length = l.length - p - 1 := by rw [← hb, List.length_drop]; omega
  have hdd : List.drop 1 (List.drop p l) = b := by rw [List.drop_drop]; exact hb
  refine ⟨by omega, alt (fun h1 => ?_) (fun h1 => ?_)⟩
  · simp
    exact fin [] (by decide) rfl rfl rfl ⟨rfl, by simp [lowS, show b.length < many by omega]⟩
  have hm2 : many ≤ l.length - p - 1 := by omega
  have hlm : (b.take many).length = many := by rw [List.length_take]; omega
  by_cases h2 : 0 < many
  · obtain ⟨c0, hc0⟩ : ∃ c, b[0]? = some c := ⟨b[0]'(by omega), by simp⟩
    have hcb0 : (bsv b)[0]? = some (cb c0) := by simp only [bsv, List.getElem?_map, hc0]; rfl
    simp [h2, hb, hcb0, cb]
    refine alt (fun h3 => ?_) (fun h3 => ?_)
    · simp
      have : c0 = mask := UInt8.toNat_inj.1 (by omega)
      subst this
      exact fin [] (by decide) rfl rfl rfl ⟨rfl, by simp [lowS, hc0, h2, show ¬ b.length < many by omega]⟩
    have hS : lowS b many mask = (valB ((b.take many).map (· ^^^ mask)), 0) := by
      rw [lowS, if_neg (by omega), if_neg]
      rintro ⟨_, h⟩
      rw [hc0] at h
      exact h3 (by rw [Option.some.inj h])
    have hmn : min many b.length = many := by omega
    obtain ⟨ms, hms⟩ : ∃ ms, (b.take many).map (· ^^^ mask) = ms := ⟨_, rfl⟩
    have hml : ms.length = many := by rw [← hms, List.length_map, hlm]
    rw [hms] at hS
    rw [hS]
    simp [hm2, hdd]
    refine ⟨by omega, ?_⟩
    refine eloop (α := Nat) (fun i => i ≤ many) (fun i => many - i)
      (fun i => [.any, .any, I .u8 mask.toNat, .any, .any, .any, .any, .any, .any, I .u64 (valB (ms.take i)), .any, .any, .any, .any, .any, .any, .any, .any, .any, .any, .any, .any, .any, .any, .any, .any, .any, .any, .any, .any, .any, .any, Bs (b.take many), I .i64 many, I .i64 i, .any, .any, .any, .any, .any, .any, .any, .any, .any, .any, .any, .any]) (fun i => [some (RdO l p e)]) 0 [0]
      (Nat.zero_le _) (by simp [Bs, I, valB, hmn]) (by simp [RdO]) (by simp) (by decide) (by simp) ?_
    intro i hi
    simp [I, Bs, RdO]
    refine alt (fun hp => ?_) (fun hp => ?_)
    · obtain ⟨c, hc⟩ : ∃ c, (b.take many)[i]? = some c := ⟨(b.take many)[i]'(by omega), by simp [hlm, hp]⟩
      have hcb : (bsv (b.take many))[i]? = some (cb c) := by simp only [bsv, List.getElem?_map, hc]; rfl
      obtain ⟨x, hx⟩ : ∃ x, c ^^^ mask = x := ⟨_, rfl⟩
      have hts := take_snoc (l := ms) (i := i) (c := x) (by rw [← hms, ← hx, List.getElem?_map, hc]; rfl)
      have hv := val_lt (ms.take i)
      have hvl : (ms.take i).length = i := by rw [List.length_take, hml]; omega
      rw [hvl] at hv
      have hv8 : 256 ^ i ≤ 256 ^ 7 := Nat.pow_le_pow_right (by omega) (by omega)
      have hc64 := x.toNat_lt
      have w1 : IntKind.i64.wrap ((i : Int) + 1) = ((i + 1 : Nat) : Int) := wrap_i64 (by omega) (by omega)
      have w4 : ibit .xor .u8 c.toNat mask.toNat = x.toNat := by rw [ibit_xor_u8, hx]
      have w2 : IntKind.u64.wrap (x.toNat : Int) = x.toNat := wrap_u64 (by omega) (by simp at hc64; omega)
      have w3 := or_byte (valB (ms.take i)) x (by omega)
      simp [hcb, cb, w1, w4, w2, w3, -Int.natCast_add]
      exact round (i + 1) [0] (by omega) (by omega) (by simp [hts, val_snoc]) (by simp) (by simp) (by decide) (by simp)
    · have him : i = many := by omega
      subst him
      have ht' : ms.take i = ms := List.take_of_length_le (by omega)
      simp [ht']
      exact fin [] (by decide) rfl rfl rfl ⟨rfl, rfl⟩
  · have h2' : many = 0 := by omega
    subst h2'
    have hS : lowS b 0 mask = (valB ((b.take 0).map (· ^^^ mask)), 0) := by
      rw [lowS, if_neg (by omega), if_neg (by simp)]
    simp [hb]
    refine eloop (α := Unit) (fun _ => True) (fun _ => 0)
      (fun _ => [.any, .any, .any, .any, .any, .any, .any, .any, .any, I .u64 0, .any, .any, .any, .any, .any, .any, .any, .any, .any, .any, .any, .any, .any, .any, .any, .any, .any, .any, .any, .any, .any, .any, .any, I .i64 0, I .i64 0, .any, .any, .any, .any, .any, .any, .any, .any, .any, .any, .any, .any]) (fun _ => [some (RdO l p e)]) () [0]
      trivial (by simp [I]) (by simp [RdO]) (by simp) (by decide) (by simp) ?_
    intro _ _
    simp [I, RdO]
    exact fin [] (by decide) rfl rfl rfl ⟨rfl, by rw [hS]; rfl⟩

/-- The int that bytes begin with: the error, the int, how many bytes it takes. -/
def intS (b : List UInt8) : Nat × Int × Nat :=
  match b with
  | [] => (12, 0, 0)
  | c :: r =>
    let many := if 128 ≤ c.toNat then c.toNat - 128 else 127 - c.toNat
    if 8 < many then (3, 0, 0) else
    let q := lowS r many (if 128 ≤ c.toNat then 0 else 255)
    if q.2 ≠ 0 then (q.2, 0, 0) else if 9223372036854775807 < q.1 then (4, 0, 0) else (0, if 128 ≤ c.toNat then (q.1 : Int) else -(q.1 : Int) - 1, 1 + many)

theorem RdInt_off (l : List UInt8) (p e : Nat) (he : e ≠ 0) : ECalls Tryz.prog 43 [Ptr 0] [RdO l p e] fun y H' => H' = [some (RdO l p e)] ∧ y = I .i64 0 := by
  refine ecalls k_RdInt ?_
  simp [c_RdInt, Ptr]
  refine callH [0] (off_ok l p e) (by simp [Ptr]) (by simp [RdO]) (by simp) (by simp) (by simp) ?_
  rintro y H' ⟨rfl, rfl⟩
  refine ⟨.inl rfl, le_ok rfl, ?_⟩
  simp [he, RdO, I]
  exact fin [] (by decide) rfl rfl rfl ⟨rfl, rfl⟩

theorem RdInt_sure : ECalls Tryz.prog 43 [Ptr 0] [RdO [129, 7] 0 0] fun y H' => H' = [some (RdO [129, 7] 2 0)] ∧ y = I .i64 7 := by
  refine ecalls k_RdInt ?_
  simp [c_RdInt, Ptr]
  refine callH [0] (off_ok [129, 7] 0 0) (by simp [Ptr]) (by simp [RdO]) (by simp) (by simp) (by simp) ?_
  rintro y H' ⟨rfl, rfl⟩
  refine ⟨.inl rfl, le_ok rfl, ?_⟩
  simp [RdO]
  refine callH [0] (rest_ok [129, 7] 0 0 (by simp)) (by simp [Ptr]) (by simp [RdO]) (by simp) (by simp) (by simp) ?_
  rintro y H' ⟨rfl, rfl⟩
  refine ⟨.inl rfl, le_ok rfl, ?_⟩
  simp [RdO, Bs, bsv, cb, IntKind.wrap_i64]
  refine callH [0] (low_ok [129, 7] 0 0 1 0 (by simp) (by omega)) (by simp [Ptr, I]) (by simp [RdO, bsv, cb]) (by simp) (by simp) (by simp) ?_
  rintro y H' ⟨rfl, rfl⟩
  refine ⟨.inl rfl, le_ok rfl, ?_⟩
  have hq : lowS ([129, 7].drop (0 + 1)) 1 0 = (7, 0) := by decide
  rw [hq]
  simp [RdO, bsv, cb, IntKind.wrap_i64]
  exact fin [] (by decide) rfl rfl rfl ⟨rfl, rfl⟩

end Go.Proofs.YtpilpjameifcfaaGreatDoor

namespace Go.Proofs.YtpilpjameifcfaaGreatDoor
open Go Go.EW
set_option linter.unusedSimpArgs false

theorem bsv_cons (c : UInt8) (r : List UInt8) : bsv (c :: r) = cb c :: bsv r := rfl
/-- A reader of a line that is handed over. -/
theorem Read_own (l : List UInt8) : ECalls Tryz.prog 42 [R 0 l] [RO l] fun y H' => H' = [none, some (RdO l 0 0)] ∧ y = Ptr 1 := by
  refine ecalls k_Read ?_
  simp [c_Read, R, RO, litc, -errV_0]
  refine finW _ (weak_still (p := 49) (k := 0) (o := 0) (ty := 5) (es := 1) (xs := bsv l) rfl (by simp) rfl) ?_
  exact fin [49] (by decide) rfl rfl rfl ⟨rfl, rfl⟩

set_option maxHeartbeats 1000000 in
theorem RdInt_ok (l : List UInt8) (p : Nat) (hp : p ≤ l.length) (hl : l.length ≤ 1000000000) : ECalls Tryz.prog 43 [Ptr 0] [RdO l p 0] fun y H' => H' = [some (RdO l (p + (intS (l.drop p)).2.2) (intS (l.drop p)).1)] ∧ y = I .i64 (intS (l.drop p)).2.1 := by
  refine ecalls k_RdInt ?_
  simp [c_RdInt, Ptr]
  refine callH [0] (off_ok l p 0) (by simp [Ptr]) (by simp [RdO]) (by simp) (by simp) (by simp) ?_
  rintro y H' ⟨rfl, rfl⟩
  refine ⟨.inl rfl, le_ok rfl, ?_⟩
  simp [RdO]
  refine callH [0] (rest_ok l p 0 hp) (by simp [Ptr]) (by simp [RdO]) (by simp) (by simp) (by simp) ?_
  rintro y H' ⟨rfl, rfl⟩
  refine ⟨.inl rfl, le_ok rfl, ?_⟩
  obtain ⟨b, hb⟩ : ∃ b, l.drop p = b := ⟨_, rfl⟩
  have hbl : b.length = l.length - p := by rw [← hb, List.length_drop]
  rw [hb]
  rcases b with _ | ⟨c, r⟩
  · simp [Bs]
    refine callH [0] (fail_ok l p 0 12) (by simp [Ptr, EV.lit]) (by simp [RdO]) (by simp) (by simp) (by simp) ?_
    rintro y H' ⟨rfl, rfl⟩
    refine ⟨.inl rfl, le_ok rfl, ?_⟩
    simp [RdO]
    exact fin [] (by decide) rfl rfl rfl ⟨rfl, rfl⟩
  · have hr : l.drop (p + 1) = r := by
      have := congrArg List.tail hb
      rwa [List.tail_drop] at this
    have hcl := c.toNat_lt
    simp at hcl hbl
    by_cases hc : 128 ≤ c.toNat
    · have w1 : IntKind.i64.wrap ((c.toNat : Int) - 128) = ((c.toNat - 128 : Nat) : Int) := by rw [wrap_i64 (by omega) (by omega)]; omega
      have w0 : IntKind.i64.wrap (c.toNat : Int) = c.toNat := wrap_i64 (by omega) (by omega)
      obtain ⟨many, hmy⟩ : ∃ many, c.toNat - 128 = many := ⟨_, rfl⟩
      rw [hmy] at w1
      simp [Bs, bsv_cons, cb]
      refine altR (by omega) ?_
      simp [w0, w1]
      refine altR (by omega) ?_
      simp
      refine alt (fun h8 => ?_) (fun h8 => ?_)
      · have hi : intS (c :: r) = (3, 0, 0) := by simp only [intS, if_pos hc, hmy]; rw [if_pos (by omega)]
        rw [hi]
        simp
        refine callH [0] (fail_ok l p 0 3) (by simp [Ptr, EV.lit]) (by simp [RdO]) (by simp) (by simp) (by simp) ?_
        rintro y H' ⟨rfl, rfl⟩
        refine ⟨.inl rfl, le_ok rfl, ?_⟩
        simp [RdO]
        exact fin [] (by decide) rfl rfl rfl ⟨rfl, rfl⟩
      · have h8' : ¬ 8 < many := by omega
        simp
        refine callH [0] (low_ok l p 0 many 0 (by omega) (by omega)) (by simp [Ptr, I]) (by simp [RdO]) (by simp) (by simp) (by simp) ?_
        rintro y H' ⟨rfl, rfl⟩
        refine ⟨.inl rfl, le_ok rfl, ?_⟩
        rw [hr]
        obtain ⟨q, hq⟩ : ∃ q, lowS r many 0 = q := ⟨_, rfl⟩
        rw [hq]
        have hi0 : intS (c :: r) = if q.2 ≠ 0 then (q.2, 0, 0) else if 9223372036854775807 < q.1 then (4, 0, 0) else (0, (q.1 : Int), 1 + many) := by
          simp only [intS, if_pos hc, hmy, if_neg h8', hq]
        by_cases hq2 : q.2 = 0
        · by_cases hq1 : 9223372036854775807 < q.1
          · have hi : intS (c :: r) = (4, 0, 0) := by rw [hi0, if_neg (by omega), if_pos hq1]
            rw [hi]
            simp [RdO, hq2, show ((9223372036854775807 : Int) < (q.1 : Int)) from by omega]
            refine callH [0] (fail_ok l p 0 4) (by simp [Ptr, EV.lit]) (by simp [RdO]) (by simp) (by simp) (by simp) ?_
            rintro y H' ⟨rfl, rfl⟩
            refine ⟨.inl rfl, le_ok rfl, ?_⟩
            simp [RdO]
            exact fin [] (by decide) rfl rfl rfl ⟨rfl, rfl⟩
          · have hi : intS (c :: r) = (0, (q.1 : Int), 1 + many) := by rw [hi0, if_neg (by omega), if_neg hq1]
            rw [hi]
            simp [RdO, hq2, show ¬ ((9223372036854775807 : Int) < (q.1 : Int)) from by omega]
            have w5 : IntKind.i64.wrap (1 + (many : Int)) = 1 + (many : Int) := wrap_i64 (by omega) (by omega)
            have w6 : IntKind.i64.wrap ((p : Int) + (1 + (many : Int))) = (p : Int) + (1 + (many : Int)) := wrap_i64 (by omega) (by omega)
            have w7 : IntKind.i64.wrap (q.1 : Int) = q.1 := wrap_i64 (by omega) (by omega)
            simp [w5, w6, w7]
            exact fin [] (by decide) rfl rfl rfl ⟨rfl, rfl⟩
        · have hi : intS (c :: r) = (q.2, 0, 0) := by rw [hi0, if_pos hq2]
          rw [hi]
          simp [RdO, hq2]
          refine callH [0] (fail_ok l p 0 q.2) (by simp [Ptr, EV.lit]) (by simp [RdO, hq2]) (by simp) (by simp) (by simp) ?_
          rintro y H' ⟨rfl, rfl⟩
          refine ⟨.inl rfl, le_ok rfl, ?_⟩
          simp [RdO, hq2]
          exact fin [] (by decide) rfl rfl rfl ⟨rfl, rfl⟩
    · have w1 : IntKind.i64.wrap ((c.toNat : Int) - 128) = (c.toNat : Int) - 128 := wrap_i64 (by omega) (by omega)
      have w9 : IntKind.i64.wrap (-1 - ((c.toNat : Int) - 128)) = ((127 - c.toNat : Nat) : Int) := by rw [wrap_i64 (by omega) (by omega)]; omega
      have w0 : IntKind.i64.wrap (c.toNat : Int) = c.toNat := wrap_i64 (by omega) (by omega)
      obtain ⟨many, hmy⟩ : ∃ many, 127 - c.toNat = many := ⟨_, rfl⟩
      rw [hmy] at w9
      simp [Bs, bsv_cons, cb]
      refine altR (by omega) ?_
      simp [w0, w1]
      refine altL (by omega) ?_
      simp [w9]
      refine alt (fun h8 => ?_) (fun h8 => ?_)
      · have hi : intS (c :: r) = (3, 0, 0) := by simp only [intS, if_neg hc, hmy]; rw [if_pos (by omega)]
        rw [hi]
        simp
        refine callH [0] (fail_ok l p 0 3) (by simp [Ptr, EV.lit]) (by simp [RdO]) (by simp) (by simp) (by simp) ?_
        rintro y H' ⟨rfl, rfl⟩
        refine ⟨.inl rfl, le_ok rfl, ?_⟩
        simp [RdO]
        exact fin [] (by decide) rfl rfl rfl ⟨rfl, rfl⟩
      · have h8' : ¬ 8 < many := by omega
        simp
        refine callH [0] (low_ok l p 0 many 255 (by omega) (by omega)) (by simp [Ptr, I]) (by simp [RdO]) (by simp) (by simp) (by simp) ?_
        rintro y H' ⟨rfl, rfl⟩
        refine ⟨.inl rfl, le_ok rfl, ?_⟩
        rw [hr]
        obtain ⟨q, hq⟩ : ∃ q, lowS r many 255 = q := ⟨_, rfl⟩
        rw [hq]
        have hi0 : intS (c :: r) = if q.2 ≠ 0 then (q.2, 0, 0) else if 9223372036854775807 < q.1 then (4, 0, 0) else (0, -(q.1 : Int) - 1, 1 + many) := by
          simp only [intS, if_neg hc, hmy, if_neg h8', hq]
        by_cases hq2 : q.2 = 0
        · by_cases hq1 : 9223372036854775807 < q.1
          · have hi : intS (c :: r) = (4, 0, 0) := by rw [hi0, if_neg (by omega), if_pos hq1]
            rw [hi]
            simp [RdO, hq2, show ((9223372036854775807 : Int) < (q.1 : Int)) from by omega]
            refine callH [0] (fail_ok l p 0 4) (by simp [Ptr, EV.lit]) (by simp [RdO]) (by simp) (by simp) (by simp) ?_
            rintro y H' ⟨rfl, rfl⟩
            refine ⟨.inl rfl, le_ok rfl, ?_⟩
            simp [RdO]
            exact fin [] (by decide) rfl rfl rfl ⟨rfl, rfl⟩
          · have hi : intS (c :: r) = (0, -(q.1 : Int) - 1, 1 + many) := by rw [hi0, if_neg (by omega), if_neg hq1]
            rw [hi]
            simp [RdO, hq2, show ¬ ((9223372036854775807 : Int) < (q.1 : Int)) from by omega]
            have w5 : IntKind.i64.wrap (1 + (many : Int)) = 1 + (many : Int) := wrap_i64 (by omega) (by omega)
            have w6 : IntKind.i64.wrap ((p : Int) + (1 + (many : Int))) = (p : Int) + (1 + (many : Int)) := wrap_i64 (by omega) (by omega)
            have w7 : IntKind.i64.wrap (q.1 : Int) = q.1 := wrap_i64 (by omega) (by omega)
            have w8 : IntKind.i64.wrap (-1 - (q.1 : Int)) = -(q.1 : Int) - 1 := by rw [wrap_i64 (by omega) (by omega)]; omega
            simp [w5, w6, w7, w8]
            exact fin [] (by decide) rfl rfl rfl ⟨rfl, rfl⟩
        · have hi : intS (c :: r) = (q.2, 0, 0) := by rw [hi0, if_pos hq2]
          rw [hi]
          simp [RdO, hq2]
          refine callH [0] (fail_ok l p 0 q.2) (by simp [Ptr, EV.lit]) (by simp [RdO, hq2]) (by simp) (by simp) (by simp) ?_
          rintro y H' ⟨rfl, rfl⟩
          refine ⟨.inl rfl, le_ok rfl, ?_⟩
          simp [RdO, hq2]
          exact fin [] (by decide) rfl rfl rfl ⟨rfl, rfl⟩

end Go.Proofs.YtpilpjameifcfaaGreatDoor
