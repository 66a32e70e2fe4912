import Derived.Test.YtoomdgmggkcgfaaDoorEwS
import Derived.Test.YtoomdgmggkcgfaaDoorEwT
import Derived.Test.YtoomdgmggkcgfaaDoorProg
namespace Go.Proofs.YtoomdgmggkcgfaaDoor
open Go Go.EW
set_option linter.unusedSimpArgs false

def s_Len64_0 : ByteArray := ⟨#[0, 1, 2, 2, 3, 3, 3, 3, 4, 4, 4, 4, 4, 4, 4, 4, 5, 5, 5, 5, 5, 5, 5, 5, 5, 5, 5, 5, 5, 5, 5, 5, 6, 6, 6, 6, 6, 6, 6, 6, 6, 6, 6, 6, 6, 6, 6, 6, 6, 6, 6, 6, 6, 6, 6, 6, 6, 6, 6, 6, 6, 6, 6, 6, 7, 7, 7, 7, 7, 7, 7, 7, 7, 7, 7, 7, 7, 7, 7, 7, 7, 7, 7, 7, 7, 7, 7, 7, 7, 7, 7, 7, 7, 7, 7, 7, 7, 7, 7, 7, 7, 7, 7, 7, 7, 7, 7, 7, 7, 7, 7, 7, 7, 7, 7, 7, 7, 7, 7, 7, 7, 7, 7, 7, 7, 7, 7, 7, 8, 8, 8, 8, 8, 8, 8, 8, 8, 8, 8, 8, 8, 8, 8, 8, 8, 8, 8, 8, 8, 8, 8, 8, 8, 8, 8, 8, 8, 8, 8, 8, 8, 8, 8, 8, 8, 8, 8, 8, 8, 8, 8, 8, 8, 8, 8, 8, 8, 8, 8, 8, 8, 8, 8, 8, 8, 8, 8, 8, 8, 8, 8, 8, 8, 8, 8, 8, 8, 8, 8, 8, 8, 8, 8, 8, 8, 8, 8, 8, 8, 8, 8, 8, 8, 8, 8, 8, 8, 8, 8, 8, 8, 8, 8, 8, 8, 8, 8, 8, 8, 8, 8, 8, 8, 8, 8, 8, 8, 8, 8, 8, 8, 8, 8, 8, 8, 8, 8, 8, 8, 8, 8, 8, 8, 8, 8, 8]⟩
@[simp] def l_Len64_1 (_ : Unit) : List EOp := [⟨0, (some 2), none, (.q (.mov (.k (.int .i64 0)))), []⟩]
@[simp] def b_Len64_2 (_ : Unit) : EB := reg0 (hid l_Len64_1) 1
@[simp] def l_Len64_3 (_ : Unit) : List EOp := [⟨0, (some 3), none, (.q (.mov (.t 0))), []⟩, ⟨1, (some 4), none, (.q (.bin .geq (.t 3) (.k (.int .u64 4294967296)))), []⟩]
@[simp] def b_Len64_4 (_ : Unit) : EB := reg0 (hid l_Len64_3) 2
@[simp] def l_Len64_5 (_ : Unit) : List EOp := [⟨0, (some 5), none, (.q (.mov (.t 0))), []⟩, ⟨1, (some 6), none, (.q (.bin .shr (.t 5) (.k (.int .u64 32)))), []⟩, ⟨2, (some 0), none, (.q (.mov (.t 6))), []⟩]
@[simp] def b_Len64_6 (_ : Unit) : EB := reg0 (hid l_Len64_5) 3
@[simp] def l_Len64_7 (_ : Unit) : List EOp := [⟨0, (some 2), none, (.q (.mov (.k (.int .i64 32)))), []⟩]
@[simp] def b_Len64_8 (_ : Unit) : EB := reg0 (hid l_Len64_7) 1
@[simp] def b_Len64_9 (_ : Unit) : EB := .seq (hid b_Len64_6) (hid b_Len64_8)
@[simp] def b_Len64_10 (_ : Unit) : EB := .cond (.t 4) (hid b_Len64_9) .skip
@[simp] def b_Len64_11 (_ : Unit) : EB := .seq (hid b_Len64_4) (hid b_Len64_10)
@[simp] def l_Len64_12 (_ : Unit) : List EOp := [⟨0, (some 7), none, (.q (.mov (.t 0))), []⟩, ⟨1, (some 8), none, (.q (.bin .geq (.t 7) (.k (.int .u64 65536)))), []⟩]
@[simp] def b_Len64_13 (_ : Unit) : EB := reg0 (hid l_Len64_12) 2
@[simp] def l_Len64_14 (_ : Unit) : List EOp := [⟨0, (some 9), none, (.q (.mov (.t 0))), []⟩, ⟨1, (some 10), none, (.q (.bin .shr (.t 9) (.k (.int .u64 16)))), []⟩, ⟨2, (some 0), none, (.q (.mov (.t 10))), []⟩]
@[simp] def b_Len64_15 (_ : Unit) : EB := reg0 (hid l_Len64_14) 3
@[simp] def l_Len64_16 (_ : Unit) : List EOp := [⟨0, (some 11), none, (.q (.mov (.t 2))), []⟩, ⟨1, (some 12), none, (.q (.bin .add (.t 11) (.k (.int .i64 16)))), []⟩, ⟨2, (some 2), none, (.q (.mov (.t 12))), []⟩]
@[simp] def b_Len64_17 (_ : Unit) : EB := reg0 (hid l_Len64_16) 3
@[simp] def b_Len64_18 (_ : Unit) : EB := .seq (hid b_Len64_15) (hid b_Len64_17)
@[simp] def b_Len64_19 (_ : Unit) : EB := .cond (.t 8) (hid b_Len64_18) .skip
@[simp] def b_Len64_20 (_ : Unit) : EB := .seq (hid b_Len64_13) (hid b_Len64_19)
@[simp] def l_Len64_21 (_ : Unit) : List EOp := [⟨0, (some 13), none, (.q (.mov (.t 0))), []⟩, ⟨1, (some 14), none, (.q (.bin .geq (.t 13) (.k (.int .u64 256)))), []⟩]
@[simp] def b_Len64_22 (_ : Unit) : EB := reg0 (hid l_Len64_21) 2
@[simp] def l_Len64_23 (_ : Unit) : List EOp := [⟨0, (some 15), none, (.q (.mov (.t 0))), []⟩, ⟨1, (some 16), none, (.q (.bin .shr (.t 15) (.k (.int .u64 8)))), []⟩, ⟨2, (some 0), none, (.q (.mov (.t 16))), []⟩]
@[simp] def b_Len64_24 (_ : Unit) : EB := reg0 (hid l_Len64_23) 3
@[simp] def l_Len64_25 (_ : Unit) : List EOp := [⟨0, (some 17), none, (.q (.mov (.t 2))), []⟩, ⟨1, (some 18), none, (.q (.bin .add (.t 17) (.k (.int .i64 8)))), []⟩, ⟨2, (some 2), none, (.q (.mov (.t 18))), []⟩]
@[simp] def b_Len64_26 (_ : Unit) : EB := reg0 (hid l_Len64_25) 3
@[simp] def b_Len64_27 (_ : Unit) : EB := .seq (hid b_Len64_24) (hid b_Len64_26)
@[simp] def b_Len64_28 (_ : Unit) : EB := .cond (.t 14) (hid b_Len64_27) .skip
@[simp] def b_Len64_29 (_ : Unit) : EB := .seq (hid b_Len64_22) (hid b_Len64_28)
@[simp] def l_Len64_31 (_ : Unit) : List EOp := [⟨6, (some 2), none, (.q (.mov (.t 24))), []⟩]
@[simp] def l_Len64_30 (_ : Unit) : List EOp := ⟨0, (some 19), none, (.q (.mov (.t 2))), []⟩ :: ⟨1, (some 20), none, (.q (.mov (.t 0))), []⟩ :: ⟨2, (some 21), none, (.q (.cnv .u8 (.t 20))), []⟩ :: ⟨3, (some 22), none, (.q (.ixs (.k (.string s_Len64_0)) (.t 21))), []⟩ :: ⟨4, (some 23), none, (.q (.cnv .i64 (.t 22))), []⟩ :: ⟨5, (some 24), none, (.q (.bin .add (.t 19) (.t 23))), []⟩ :: hid l_Len64_31
@[simp] def b_Len64_32 (_ : Unit) : EB := reg0 (hid l_Len64_30) 7
@[simp] def b_Len64_33 (_ : Unit) : EB := .seq (hid b_Len64_32) .ret
@[simp] def b_Len64_34 (_ : Unit) : EB := .seq (hid b_Len64_29) (hid b_Len64_33)
@[simp] def b_Len64_35 (_ : Unit) : EB := .seq (hid b_Len64_20) (hid b_Len64_34)
@[simp] def b_Len64_36 (_ : Unit) : EB := .seq (hid b_Len64_11) (hid b_Len64_35)
@[simp] def b_Len64_37 (_ : Unit) : EB := .seq (hid b_Len64_2) (hid b_Len64_36)
def c_Len64 : EB × List QOp × Nat := ((hid b_Len64_37), [(.mov (.t 2))], 25)
theorem k_Len64 : cfun Tryd.prog 91 = some c_Len64 := by kernel_rfl

@[simp] def l_width_1 (_ : Unit) : List EOp := [⟨0, (some 2), none, (.q (.mov (.k (.int .i64 0)))), []⟩]
@[simp] def b_width_2 (_ : Unit) : EB := reg0 (hid l_width_1) 1
@[simp] def l_width_3 (_ : Unit) : List EOp := [⟨0, (some 3), none, (.q (.mov (.t 0))), []⟩, ⟨1, (some 4), none, (.call 91 [(.t 3)]), []⟩, ⟨2, (some 5), none, (.q (.bin .add (.t 4) (.k (.int .i64 7)))), []⟩, ⟨3, (some 6), none, (.q (.bin .quo (.t 5) (.k (.int .i64 8)))), []⟩, ⟨4, (some 2), none, (.q (.mov (.t 6))), []⟩]
@[simp] def b_width_4 (_ : Unit) : EB := reg0 (hid l_width_3) 5
@[simp] def b_width_5 (_ : Unit) : EB := .seq (hid b_width_4) .ret
@[simp] def b_width_6 (_ : Unit) : EB := .seq (hid b_width_2) (hid b_width_5)
def c_width : EB × List QOp × Nat := ((hid b_width_6), [(.mov (.t 2))], 7)
theorem k_width : cfun Tryd.prog 97 = some c_width := by kernel_rfl

@[simp] def l_high_1 (_ : Unit) : List EOp := [⟨0, (some 6), none, (.q (.mov (.k (.slice none 0 0)))), []⟩]
@[simp] def b_high_2 (_ : Unit) : EB := reg0 (hid l_high_1) 1
@[simp] def l_high_3 (_ : Unit) : List EOp := [⟨0, (some 8), none, (.q (.mov (.t 1))), []⟩, ⟨1, (some 9), none, (.call 97 [(.t 8)]), []⟩, ⟨2, (some 10), none, (.q (.bin .sub (.t 9) (.k (.int .i64 1)))), []⟩, ⟨3, (some 7), none, (.q (.mov (.t 10))), []⟩]
@[simp] def b_high_4 (_ : Unit) : EB := reg0 (hid l_high_3) 4
@[simp] def l_high_5 (_ : Unit) : List EOp := [⟨0, (some 11), none, (.q (.mov (.t 7))), []⟩, ⟨1, (some 12), none, (.q (.bin .geq (.t 11) (.k (.int .i64 0)))), []⟩]
@[simp] def b_high_6 (_ : Unit) : EB := reg0 (hid l_high_5) 2
@[simp] def b_high_7 (_ : Unit) : EB := .cond (.t 12) .skip (.exit 0)
@[simp] def b_high_8 (_ : Unit) : EB := .seq (hid b_high_6) (hid b_high_7)
@[simp] def l_high_10 (_ : Unit) : List EOp := [⟨6, (some 21), none, (.q (.mov (.t 2))), []⟩, ⟨7, (some 22), none, (.q (.bin .xor (.t 20) (.t 21))), []⟩, ⟨8, (some 23), none, (.q (.bsl 1 [(.int .u8 0)] 1 [(0, (.t 22))])), []⟩, ⟨9, (some 24), none, (.app 5 1 1 (.t 15) (.t 23)), []⟩, ⟨10, (some 0), none, (.q (.mov (.t 24))), []⟩]
@[simp] def l_high_9 (_ : Unit) : List EOp := ⟨0, (some 15), none, (.q (.mov (.t 0))), []⟩ :: ⟨1, (some 16), none, (.q (.mov (.t 1))), []⟩ :: ⟨2, (some 17), none, (.q (.mov (.t 7))), []⟩ :: ⟨3, (some 18), none, (.q (.bin .mul (.k (.int .i64 8)) (.t 17))), []⟩ :: ⟨4, (some 19), none, (.q (.bin .shr (.t 16) (.t 18))), []⟩ :: ⟨5, (some 20), none, (.q (.cnv .u8 (.t 19))), []⟩ :: hid l_high_10
@[simp] def b_high_11 (_ : Unit) : EB := reg0 (hid l_high_9) 11
@[simp] def b_high_12 (_ : Unit) : EB := .block 1 (hid b_high_11)
@[simp] def l_high_13 (_ : Unit) : List EOp := [⟨0, (some 13), none, (.q (.mov (.t 7))), []⟩, ⟨1, (some 14), none, (.q (.bin .sub (.t 13) (.k (.int .i64 1)))), []⟩, ⟨2, (some 7), none, (.q (.mov (.t 14))), []⟩]
@[simp] def b_high_14 (_ : Unit) : EB := reg0 (hid l_high_13) 3
@[simp] def b_high_15 (_ : Unit) : EB := .seq (hid b_high_12) (hid b_high_14)
@[simp] def b_high_16 (_ : Unit) : EB := .seq (hid b_high_8) (hid b_high_15)
@[simp] def b_high_17 (_ : Unit) : EB := .loop (hid b_high_16)
@[simp] def b_high_18 (_ : Unit) : EB := .block 0 (hid b_high_17)
@[simp] def b_high_19 (_ : Unit) : EB := .seq (hid b_high_4) (hid b_high_18)
@[simp] def l_high_20 (_ : Unit) : List EOp := [⟨0, (some 25), none, (.q (.mov (.t 0))), []⟩, ⟨1, (some 6), none, (.q (.mov (.t 25))), []⟩]
@[simp] def b_high_21 (_ : Unit) : EB := reg0 (hid l_high_20) 2
@[simp] def b_high_22 (_ : Unit) : EB := .seq (hid b_high_21) .ret
@[simp] def b_high_23 (_ : Unit) : EB := .seq (hid b_high_19) (hid b_high_22)
@[simp] def b_high_24 (_ : Unit) : EB := .seq (hid b_high_2) (hid b_high_23)
def c_high : EB × List QOp × Nat := ((hid b_high_24), [(.mov (.t 6))], 26)
theorem k_high : cfun Tryd.prog 96 = some c_high := by kernel_rfl


theorem tab_ok : lenTab (fun i => s_Len64_0.data.toList[i]?) = true := by kernel_rfl
theorem leaf_ok (n x k : Nat) (hx : x = n / 2 ^ k) (h0 : k = 0 ∨ x ≠ 0) (h1 : x < 256) : ∃ r : UInt8, s_Len64_0.data.toList[x]? = some r ∧ IsLen n (k + r.toNat) ∧ r.toNat ≤ 8 := by
  obtain ⟨r, h2, h3, h4⟩ := lenTab_spec tab_ok h1
  refine ⟨r, h2, ?_, h4⟩
  rcases h0 with rfl | h0
  · simp at hx; subst hx; simpa using h3
  · subst hx; exact isLen_shift h3 h0

theorem len64_ok (n : Nat) (h : n < 18446744073709551616) : ECalls Tryd.prog 91 [I .u64 n] [] fun y H' => H' = [] ∧ ∃ r : Nat, IsLen n r ∧ r ≤ 64 ∧ y = I .i64 r := by
  have leaf : ∀ (a : Int) (x k : Nat), a = x → x = n / 2 ^ k → (k = 0 ∨ x ≠ 0) → x < 256 → ∃ r : UInt8, IntKind.u8.wrap a = a ∧ 0 ≤ a ∧ s_Len64_0.data[a.toNat]? = some r ∧ IsLen n (k + r.toNat) ∧ r.toNat ≤ 8 := by
    rintro a x k rfl h1 h2 h3
    obtain ⟨r, q1, q2, q3⟩ := leaf_ok n x k h1 h2 h3
    exact ⟨r, wrap_u8 (by omega) (by omega), by omega, by simpa using q1, q2, q3⟩
  refine ecalls k_Len64 ?_
  simp [c_Len64, I]
  refine alt (fun h1 => ?_) (fun h1 => ?_) <;> simp (disch := omega) [wrap_i64] <;> refine alt (fun h2 => ?_) (fun h2 => ?_) <;> simp (disch := omega) [wrap_i64] <;> refine alt (fun h3 => ?_) (fun h3 => ?_) <;> simp (disch := omega) [wrap_i64]
  · obtain ⟨r, e1, e2, e3, e4, e5⟩ := leaf ((n : Int) / 4294967296 / 65536 / 256) (n / 2 ^ 56) 56 (by omega) rfl (by omega) (by omega)
    simp (disch := omega) [e1, e2, e3, wrap_i64]
    exact fin [] (by simp) rfl rfl rfl ⟨rfl, 56 + r.toNat, e4, by omega, by simp⟩
  · obtain ⟨r, e1, e2, e3, e4, e5⟩ := leaf ((n : Int) / 4294967296 / 65536) (n / 2 ^ 48) 48 (by omega) rfl (by omega) (by omega)
    simp (disch := omega) [e1, e2, e3, wrap_i64]
    exact fin [] (by simp) rfl rfl rfl ⟨rfl, 48 + r.toNat, e4, by omega, by simp⟩
  · obtain ⟨r, e1, e2, e3, e4, e5⟩ := leaf ((n : Int) / 4294967296 / 256) (n / 2 ^ 40) 40 (by omega) rfl (by omega) (by omega)
    simp (disch := omega) [e1, e2, e3, wrap_i64]
    exact fin [] (by simp) rfl rfl rfl ⟨rfl, 40 + r.toNat, e4, by omega, by simp⟩
  · obtain ⟨r, e1, e2, e3, e4, e5⟩ := leaf ((n : Int) / 4294967296) (n / 2 ^ 32) 32 (by omega) rfl (by omega) (by omega)
    simp (disch := omega) [e1, e2, e3, wrap_i64]
    exact fin [] (by simp) rfl rfl rfl ⟨rfl, 32 + r.toNat, e4, by omega, by simp⟩
  · obtain ⟨r, e1, e2, e3, e4, e5⟩ := leaf ((n : Int) / 65536 / 256) (n / 2 ^ 24) 24 (by omega) rfl (by omega) (by omega)
    simp (disch := omega) [e1, e2, e3, wrap_i64]
    exact fin [] (by simp) rfl rfl rfl ⟨rfl, 24 + r.toNat, e4, by omega, by simp⟩
  · obtain ⟨r, e1, e2, e3, e4, e5⟩ := leaf ((n : Int) / 65536) (n / 2 ^ 16) 16 (by omega) rfl (by omega) (by omega)
    simp (disch := omega) [e1, e2, e3, wrap_i64]
    exact fin [] (by simp) rfl rfl rfl ⟨rfl, 16 + r.toNat, e4, by omega, by simp⟩
  · obtain ⟨r, e1, e2, e3, e4, e5⟩ := leaf ((n : Int) / 256) (n / 2 ^ 8) 8 (by omega) rfl (by omega) (by omega)
    simp (disch := omega) [e1, e2, e3, wrap_i64]
    exact fin [] (by simp) rfl rfl rfl ⟨rfl, 8 + r.toNat, e4, by omega, by simp⟩
  · obtain ⟨r, e1, e2, e3, e4, e5⟩ := leaf ((n : Int)) (n / 2 ^ 0) 0 (by omega) rfl (by omega) (by omega)
    simp at e3 e4
    simp (disch := omega) [e1, e2, e3, wrap_i64]
    exact fin [] (by simp) rfl rfl rfl ⟨rfl, r.toNat, e4, by omega, by simp⟩

theorem width_ok (n : Nat) (h : n < 18446744073709551616) : ECalls Tryd.prog 97 [I .u64 n] [] fun y H' => H' = [] ∧ y = I .i64 (nb n) := by
  refine ecalls k_width ?_
  simp [c_width, I]
  refine call0 (len64_ok n h) rfl ?_
  rintro y H' ⟨rfl, r, hr, hle, rfl⟩
  have h1 : IntKind.i64.wrap ((r : Int) + 7) = (r : Int) + 7 := wrap_i64 (by omega) (by omega)
  have h2 : IntKind.i64.wrap (((r : Int) + 7).tdiv 8) = (nb n : Int) := by
    rw [← isLen_nb hr, Int.tdiv_eq_ediv_of_nonneg (by omega), wrap_i64 (by omega) (by omega)]; omega
  simp [I, h1, h2]
  exact fin [] (by simp) rfl rfl rfl ⟨rfl, rfl⟩

/-- A slice of bytes of its own. -/
def R (o : Nat) (l : List UInt8) : EV := .v (.c (.row o l.length))
def RO (l : List UInt8) : EO := .row 5 1 (bsv l)

set_option maxHeartbeats 1000000 in
theorem high_ok (bs : List UInt8) (n : Nat) (m : UInt8) (h : n < 18446744073709551616) (hb : bs.length ≤ 1000000000) :
    ECalls Tryd.prog 96 [R 0 bs, I .u64 n, I .u8 m.toNat] [RO bs] fun y H' => H' = [none, some (RO (bs ++ (dg n).map (· ^^^ m)))] ∧ y = R 1 (bs ++ (dg n).map (· ^^^ m)) := by
  refine ecalls k_high ?_
  simp [c_high, I, R]
  refine call0 (width_ok n h) rfl ?_
  rintro y H' ⟨rfl, rfl⟩
  have h8 := nb_8 h
  simp (disch := omega) [I, wrap_i64]
  refine eloop (α := Nat × List UInt8) (fun a => a.1 ≤ nb n ∧ a.2 ++ (be a.1 n).map (· ^^^ m) = (dg n).map (· ^^^ m)) (fun a => a.1)
    (fun a => [R 1 (bs ++ a.2), I .u64 n, I .u8 m.toNat, .any, .any, .any, .any, I .i64 ((a.1 : Int) - 1), .any, .any, .any, .any, .any, .any, .any, .any, .any, .any, .any, .any, .any, .any, .any, .any, .any, .any]) (fun a => [none, some (RO (bs ++ a.2))]) (nb n, []) [0, 0]
    ⟨Nat.le_refl _, by simp [dg]⟩ (by simp [R, I]) (by simp [RO]) (by simp) (by simp) (by simp) ?_
  rintro ⟨k, ds⟩ ⟨hk, hds⟩
  simp [I, R, RO] at hk hds ⊢
  refine alt (fun hp => ?_) (fun hp => ?_)
  · obtain ⟨j, rfl⟩ : ∃ j, k = j + 1 := ⟨k - 1, by omega⟩
    have hdl := congrArg List.length hds
    simp [be_len, dg_len] at hdl
    simp (disch := omega) [wrap_i64, xor_byte]
    exact ⟨by omega, ⟨by omega, by omega⟩, round (j, ds ++ [b8 (n / 256 ^ j) ^^^ m]) [0, 178] ⟨by simp; omega, by rw [← hds]; simp [be]⟩ (by simp) (by simp [R, I, Nat.add_assoc]) (by simp [RO, bsv, cb]) (by simp) (by simp) (by simp)⟩
  · obtain rfl : k = 0 := by omega
    simp [be] at hds
    subst hds
    simp
    exact fin [1] (by simp) rfl rfl rfl ⟨by simp [RO], by simp [R]⟩

end Go.Proofs.YtoomdgmggkcgfaaDoor
