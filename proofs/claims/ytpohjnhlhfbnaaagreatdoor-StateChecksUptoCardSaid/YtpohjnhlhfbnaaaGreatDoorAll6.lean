import Derived.Test.YtpohjnhlhfbnaaaGreatDoorAll5
import Derived.Test.YtpohjnhlhfbnaaaGreatDoorProg
namespace Go.Proofs.YtpohjnhlhfbnaaaGreatDoor
open Go Go.EW
set_option linter.unusedSimpArgs false

def s_Len64_0 : ByteArray := ⟨#[0, 1, 2, 2, 3, 3, 3, 3, 4, 4, 4, 4, 4, 4, 4, 4, 5, 5, 5, 5, 5, 5, 5, 5, 5, 5, 5, 5, 5, 5, 5, 5, 6, 6, 6, 6, 6, 6, 6, 6, 6, 6, 6, 6, 6, 6, 6, 6, 6, 6, 6, 6, 6, 6, 6, 6, 6, 6, 6, 6, 6, 6, 6, 6, 7, 7, 7, 7, 7, 7, 7, 7, 7, 7, 7, 7, 7, 7, 7, 7, 7, 7, 7, 7, 7, 7, 7, 7, 7, 7, 7, 7, 7, 7, 7, 7, 7, 7, 7, 7, 7, 7, 7, 7, 7, 7, 7, 7, 7, 7, 7, 7, 7, 7, 7, 7, 7, 7, 7, 7, 7, 7, 7, 7, 7, 7, 7, 7, 8, 8, 8, 8, 8, 8, 8, 8, 8, 8, 8, 8, 8, 8, 8, 8, 8, 8, 8, 8, 8, 8, 8, 8, 8, 8, 8, 8, 8, 8, 8, 8, 8, 8, 8, 8, 8, 8, 8, 8, 8, 8, 8, 8, 8, 8, 8, 8, 8, 8, 8, 8, 8, 8, 8, 8, 8, 8, 8, 8, 8, 8, 8, 8, 8, 8, 8, 8, 8, 8, 8, 8, 8, 8, 8, 8, 8, 8, 8, 8, 8, 8, 8, 8, 8, 8, 8, 8, 8, 8, 8, 8, 8, 8, 8, 8, 8, 8, 8, 8, 8, 8, 8, 8, 8, 8, 8, 8, 8, 8, 8, 8, 8, 8, 8, 8, 8, 8, 8, 8, 8, 8, 8, 8, 8, 8, 8, 8]⟩
@[simp] def l_Len64_1 (_ : Unit) : List EOp := [⟨0, (some 2), none, (.q (.mov (.k (.int .i64 0)))), []⟩]
@[simp] def b_Len64_2 (_ : Unit) : EB := reg0 (hid l_Len64_1) 1
@[simp] def l_Len64_3 (_ : Unit) : List EOp := [⟨0, (some 3), none, (.q (.mov (.t 0))), []⟩, ⟨1, (some 4), none, (.q (.bin .geq (.t 3) (.k (.int .u64 4294967296)))), []⟩]
@[simp] def b_Len64_4 (_ : Unit) : EB := reg0 (hid l_Len64_3) 2
@[simp] def l_Len64_5 (_ : Unit) : List EOp := [⟨0, (some 5), none, (.q (.mov (.t 0))), []⟩, ⟨1, (some 6), none, (.q (.bin .shr (.t 5) (.k (.int .u64 32)))), []⟩, ⟨2, (some 0), none, (.q (.mov (.t 6))), []⟩]
@[simp] def b_Len64_6 (_ : Unit) : EB := reg0 (hid l_Len64_5) 3
@[simp] def l_Len64_7 (_ : Unit) : List EOp := [⟨0, (some 2), none, (.q (.mov (.k (.int .i64 32)))), []⟩]
@[simp] def b_Len64_8 (_ : Unit) : EB := reg0 (hid l_Len64_7) 1
@[simp] def b_Len64_9 (_ : Unit) : EB := .seq (hid b_Len64_6) (hid b_Len64_8)
@[simp] def b_Len64_10 (_ : Unit) : EB := .cond (.t 4) (hid b_Len64_9) .skip
@[simp] def b_Len64_11 (_ : Unit) : EB := .seq (hid b_Len64_4) (hid b_Len64_10)
@[simp] def l_Len64_12 (_ : Unit) : List EOp := [⟨0, (some 7), none, (.q (.mov (.t 0))), []⟩, ⟨1, (some 8), none, (.q (.bin .geq (.t 7) (.k (.int .u64 65536)))), []⟩]
@[simp] def b_Len64_13 (_ : Unit) : EB := reg0 (hid l_Len64_12) 2
@[simp] def l_Len64_14 (_ : Unit) : List EOp := [⟨0, (some 9), none, (.q (.mov (.t 0))), []⟩, ⟨1, (some 10), none, (.q (.bin .shr (.t 9) (.k (.int .u64 16)))), []⟩, ⟨2, (some 0), none, (.q (.mov (.t 10))), []⟩]
@[simp] def b_Len64_15 (_ : Unit) : EB := reg0 (hid l_Len64_14) 3
@[simp] def l_Len64_16 (_ : Unit) : List EOp := [⟨0, (some 11), none, (.q (.mov (.t 2))), []⟩, ⟨1, (some 12), none, (.q (.bin .add (.t 11) (.k (.int .i64 16)))), []⟩, ⟨2, (some 2), none, (.q (.mov (.t 12))), []⟩]
@[simp] def b_Len64_17 (_ : Unit) : EB := reg0 (hid l_Len64_16) 3
@[simp] def b_Len64_18 (_ : Unit) : EB := .seq (hid b_Len64_15) (hid b_Len64_17)
@[simp] def b_Len64_19 (_ : Unit) : EB := .cond (.t 8) (hid b_Len64_18) .skip
@[simp] def b_Len64_20 (_ : Unit) : EB := .seq (hid b_Len64_13) (hid b_Len64_19)
@[simp] def l_Len64_21 (_ : Unit) : List EOp := [⟨0, (some 13), none, (.q (.mov (.t 0))), []⟩, ⟨1, (some 14), none, (.q (.bin .geq (.t 13) (.k (.int .u64 256)))), []⟩]
@[simp] def b_Len64_22 (_ : Unit) : EB := reg0 (hid l_Len64_21) 2
@[simp] def l_Len64_23 (_ : Unit) : List EOp := [⟨0, (some 15), none, (.q (.mov (.t 0))), []⟩, ⟨1, (some 16), none, (.q (.bin .shr (.t 15) (.k (.int .u64 8)))), []⟩, ⟨2, (some 0), none, (.q (.mov (.t 16))), []⟩]
@[simp] def b_Len64_24 (_ : Unit) : EB := reg0 (hid l_Len64_23) 3
@[simp] def l_Len64_25 (_ : Unit) : List EOp := [⟨0, (some 17), none, (.q (.mov (.t 2))), []⟩, ⟨1, (some 18), none, (.q (.bin .add (.t 17) (.k (.int .i64 8)))), []⟩, ⟨2, (some 2), none, (.q (.mov (.t 18))), []⟩]
@[simp] def b_Len64_26 (_ : Unit) : EB := reg0 (hid l_Len64_25) 3
@[simp] def b_Len64_27 (_ : Unit) : EB := .seq (hid b_Len64_24) (hid b_Len64_26)
@[simp] def b_Len64_28 (_ : Unit) : EB := .cond (.t 14) (hid b_Len64_27) .skip
@[simp] def b_Len64_29 (_ : Unit) : EB := .seq (hid b_Len64_22) (hid b_Len64_28)
@[simp] def l_Len64_31 (_ : Unit) : List EOp := [⟨6, (some 2), none, (.q (.mov (.t 24))), []⟩]
@[simp] def l_Len64_30 (_ : Unit) : List EOp := ⟨0, (some 19), none, (.q (.mov (.t 2))), []⟩ :: ⟨1, (some 20), none, (.q (.mov (.t 0))), []⟩ :: ⟨2, (some 21), none, (.q (.cnv .u8 (.t 20))), []⟩ :: ⟨3, (some 22), none, (.q (.ixs (.k (.string s_Len64_0)) (.t 21))), []⟩ :: ⟨4, (some 23), none, (.q (.cnv .i64 (.t 22))), []⟩ :: ⟨5, (some 24), none, (.q (.bin .add (.t 19) (.t 23))), []⟩ :: hid l_Len64_31
@[simp] def b_Len64_32 (_ : Unit) : EB := reg0 (hid l_Len64_30) 7
@[simp] def b_Len64_33 (_ : Unit) : EB := .seq (hid b_Len64_32) .ret
@[simp] def b_Len64_34 (_ : Unit) : EB := .seq (hid b_Len64_29) (hid b_Len64_33)
@[simp] def b_Len64_35 (_ : Unit) : EB := .seq (hid b_Len64_20) (hid b_Len64_34)
@[simp] def b_Len64_36 (_ : Unit) : EB := .seq (hid b_Len64_11) (hid b_Len64_35)
@[simp] def b_Len64_37 (_ : Unit) : EB := .seq (hid b_Len64_2) (hid b_Len64_36)
def c_Len64 : EB × List QOp × Nat := ((hid b_Len64_37), [(.mov (.t 2))], 25)
theorem k_Len64 : cfun Tryz.prog 78 = some c_Len64 := by kernel_rfl

@[simp] def l_width_1 (_ : Unit) : List EOp := [⟨0, (some 2), none, (.q (.mov (.k (.int .i64 0)))), []⟩]
@[simp] def b_width_2 (_ : Unit) : EB := reg0 (hid l_width_1) 1
@[simp] def l_width_3 (_ : Unit) : List EOp := [⟨0, (some 3), none, (.q (.mov (.t 0))), []⟩, ⟨1, (some 4), none, (.call 78 [(.t 3)]), []⟩, ⟨2, (some 5), none, (.q (.bin .add (.t 4) (.k (.int .i64 7)))), []⟩, ⟨3, (some 6), none, (.q (.bin .quo (.t 5) (.k (.int .i64 8)))), []⟩, ⟨4, (some 2), none, (.q (.mov (.t 6))), []⟩]
@[simp] def b_width_4 (_ : Unit) : EB := reg0 (hid l_width_3) 5
@[simp] def b_width_5 (_ : Unit) : EB := .seq (hid b_width_4) .ret
@[simp] def b_width_6 (_ : Unit) : EB := .seq (hid b_width_2) (hid b_width_5)
def c_width : EB × List QOp × Nat := ((hid b_width_6), [(.mov (.t 2))], 7)
theorem k_width : cfun Tryz.prog 61 = some c_width := by kernel_rfl

@[simp] def l_high_1 (_ : Unit) : List EOp := [⟨0, (some 6), none, (.q (.mov (.k (.slice none 0 0)))), []⟩]
@[simp] def b_high_2 (_ : Unit) : EB := reg0 (hid l_high_1) 1
@[simp] def l_high_3 (_ : Unit) : List EOp := [⟨0, (some 8), none, (.q (.mov (.t 1))), []⟩, ⟨1, (some 9), none, (.call 61 [(.t 8)]), []⟩, ⟨2, (some 10), none, (.q (.bin .sub (.t 9) (.k (.int .i64 1)))), []⟩, ⟨3, (some 7), none, (.q (.mov (.t 10))), []⟩]
@[simp] def b_high_4 (_ : Unit) : EB := reg0 (hid l_high_3) 4
@[simp] def l_high_5 (_ : Unit) : List EOp := [⟨0, (some 11), none, (.q (.mov (.t 7))), []⟩, ⟨1, (some 12), none, (.q (.bin .geq (.t 11) (.k (.int .i64 0)))), []⟩]
@[simp] def b_high_6 (_ : Unit) : EB := reg0 (hid l_high_5) 2
@[simp] def b_high_7 (_ : Unit) : EB := .cond (.t 12) .skip (.exit 0)
@[simp] def b_high_8 (_ : Unit) : EB := .seq (hid b_high_6) (hid b_high_7)
@[simp] def l_high_10 (_ : Unit) : List EOp := [⟨6, (some 21), none, (.q (.mov (.t 2))), []⟩, ⟨7, (some 22), none, (.q (.bin .xor (.t 20) (.t 21))), []⟩, ⟨8, (some 23), none, (.q (.bsl 1 [(.int .u8 0)] 1 [(0, (.t 22))])), []⟩, ⟨9, (some 24), none, (.app 5 1 1 (.t 15) (.t 23)), []⟩, ⟨10, (some 0), none, (.q (.mov (.t 24))), []⟩]
@[simp] def l_high_9 (_ : Unit) : List EOp := ⟨0, (some 15), none, (.q (.mov (.t 0))), []⟩ :: ⟨1, (some 16), none, (.q (.mov (.t 1))), []⟩ :: ⟨2, (some 17), none, (.q (.mov (.t 7))), []⟩ :: ⟨3, (some 18), none, (.q (.bin .mul (.k (.int .i64 8)) (.t 17))), []⟩ :: ⟨4, (some 19), none, (.q (.bin .shr (.t 16) (.t 18))), []⟩ :: ⟨5, (some 20), none, (.q (.cnv .u8 (.t 19))), []⟩ :: hid l_high_10
@[simp] def b_high_11 (_ : Unit) : EB := reg0 (hid l_high_9) 11
@[simp] def b_high_12 (_ : Unit) : EB := .block 1 (hid b_high_11)
@[simp] def l_high_13 (_ : Unit) : List EOp := [⟨0, (some 13), none, (.q (.mov (.t 7))), []⟩, ⟨1, (some 14), none, (.q (.bin .sub (.t 13) (.k (.int .i64 1)))), []⟩, ⟨2, (some 7), none, (.q (.mov (.t 14))), []⟩]
@[simp] def b_high_14 (_ : Unit) : EB := reg0 (hid l_high_13) 3
@[simp] def b_high_15 (_ : Unit) : EB := .seq (hid b_high_12) (hid b_high_14)
@[simp] def b_high_16 (_ : Unit) : EB := .seq (hid b_high_8) (hid b_high_15)
@[simp] def b_high_17 (_ : Unit) : EB := .loop (hid b_high_16)
@[simp] def b_high_18 (_ : Unit) : EB := .block 0 (hid b_high_17)
@[simp] def b_high_19 (_ : Unit) : EB := .seq (hid b_high_4) (hid b_high_18)
@[simp] def l_high_20 (_ : Unit) : List EOp := [⟨0, (some 25), none, (.q (.mov (.t 0))), []⟩, ⟨1, (some 6), none, (.q (.mov (.t 25))), []⟩]
@[simp] def b_high_21 (_ : Unit) : EB := reg0 (hid l_high_20) 2
@[simp] def b_high_22 (_ : Unit) : EB := .seq (hid b_high_21) .ret
@[simp] def b_high_23 (_ : Unit) : EB := .seq (hid b_high_19) (hid b_high_22)
@[simp] def b_high_24 (_ : Unit) : EB := .seq (hid b_high_2) (hid b_high_23)
def c_high : EB × List QOp × Nat := ((hid b_high_24), [(.mov (.t 6))], 26)
theorem k_high : cfun Tryz.prog 60 = some c_high := by kernel_rfl


theorem tab_ok : lenTab (fun i => s_Len64_0.data.toList[i]?) = true := by kernel_rfl
theorem leaf_ok (n x k : Nat) (hx : x = n / 2 ^ k) (h0 : k = 0 ∨ x ≠ 0) (h1 : x < 256) : ∃ r : UInt8, s_Len64_0.data.toList[x]? = some r ∧ IsLen n (k + r.toNat) ∧ r.toNat ≤ 8 := by
  obtain ⟨r, h2, h3, h4⟩ := lenTab_spec tab_ok h1
  refine ⟨r, h2, ?_, h4⟩
  rcases h0 with rfl | h0
  · simp at hx; subst hx; simpa using h3
  · subst hx; exact isLen_shift h3 h0

theorem len64_ok (n : Nat) (h : n < 18446744073709551616) : ECalls Tryz.prog 78 [I .u64 n] [] fun y H' => H' = [] ∧ ∃ r : Nat, IsLen n r ∧ r ≤ 64 ∧ y = I .i64 r := by
  have leaf : ∀ (a : Int) (x k : Nat), a = x → x = n / 2 ^ k → (k = 0 ∨ x ≠ 0) → x < 256 → ∃ r : UInt8, IntKind.u8.wrap a = a ∧ 0 ≤ a ∧ s_Len64_0.data[a.toNat]? = some r ∧ IsLen n (k + r.toNat) ∧ r.toNat ≤ 8 := by
    rintro a x k rfl h1 h2 h3
    obtain ⟨r, q1, q2, q3⟩ := leaf_ok n x k h1 h2 h3
    exact ⟨r, wrap_u8 (by omega) (by omega), by omega, by simpa using q1, q2, q3⟩
  refine ecalls k_Len64 ?_
  simp [c_Len64, I]
  refine alt (fun h1 => ?_) (fun h1 => ?_) <;> simp (disch := omega) [wrap_i64] <;> refine alt (fun h2 => ?_) (fun h2 => ?_) <;> simp (disch := omega) [wrap_i64] <;> refine alt (fun h3 => ?_) (fun h3 => ?_) <;> simp (disch := omega) [wrap_i64]
  · obtain ⟨r, e1, e2, e3, e4, e5⟩ := leaf ((n : Int) / 4294967296 / 65536 / 256) (n / 2 ^ 56) 56 (by omega) rfl (by omega) (by omega)
    simp (disch := omega) [e1, e2, e3, wrap_i64]
    exact fin [] (by simp) rfl rfl rfl ⟨rfl, 56 + r.toNat, e4, by omega, by simp⟩
  · obtain ⟨r, e1, e2, e3, e4, e5⟩ := leaf ((n : Int) / 4294967296 / 65536) (n / 2 ^ 48) 48 (by omega) rfl (by omega) (by omega)
    simp (disch := omega) [e1, e2, e3, wrap_i64]
    exact fin [] (by simp) rfl rfl rfl ⟨rfl, 48 + r.toNat, e4, by omega, by simp⟩
  · obtain ⟨r, e1, e2, e3, e4, e5⟩ := leaf ((n : Int) / 4294967296 / 256) (n / 2 ^ 40) 40 (by omega) rfl (by omega) (by omega)
    simp (disch := omega) [e1, e2, e3, wrap_i64]
    exact fin [] (by simp) rfl rfl rfl ⟨rfl, 40 + r.toNat, e4, by omega, by simp⟩
  · obtain ⟨r, e1, e2, e3, e4, e5⟩ := leaf ((n : Int) / 4294967296) (n / 2 ^ 32) 32 (by omega) rfl (by omega) (by omega)
    simp (disch := omega) [e1, e2, e3, wrap_i64]
    exact fin [] (by simp) rfl rfl rfl ⟨rfl, 32 + r.toNat, e4, by omega, by simp⟩
  · obtain ⟨r, e1, e2, e3, e4, e5⟩ := leaf ((n : Int) / 65536 / 256) (n / 2 ^ 24) 24 (by omega) rfl (by omega) (by omega)
    simp (disch := omega) [e1, e2, e3, wrap_i64]
    exact fin [] (by simp) rfl rfl rfl ⟨rfl, 24 + r.toNat, e4, by omega, by simp⟩
  · obtain ⟨r, e1, e2, e3, e4, e5⟩ := leaf ((n : Int) / 65536) (n / 2 ^ 16) 16 (by omega) rfl (by omega) (by omega)
    simp (disch := omega) [e1, e2, e3, wrap_i64]
    exact fin [] (by simp) rfl rfl rfl ⟨rfl, 16 + r.toNat, e4, by omega, by simp⟩
  · obtain ⟨r, e1, e2, e3, e4, e5⟩ := leaf ((n : Int) / 256) (n / 2 ^ 8) 8 (by omega) rfl (by omega) (by omega)
    simp (disch := omega) [e1, e2, e3, wrap_i64]
    exact fin [] (by simp) rfl rfl rfl ⟨rfl, 8 + r.toNat, e4, by omega, by simp⟩
  · obtain ⟨r, e1, e2, e3, e4, e5⟩ := leaf ((n : Int)) (n / 2 ^ 0) 0 (by omega) rfl (by omega) (by omega)
    simp at e3 e4
    simp (disch := omega) [e1, e2, e3, wrap_i64]
    exact fin [] (by simp) rfl rfl rfl ⟨rfl, r.toNat, e4, by omega, by simp⟩

theorem width_ok (n : Nat) (h : n < 18446744073709551616) : ECalls Tryz.prog 61 [I .u64 n] [] fun y H' => H' = [] ∧ y = I .i64 (nb n) := by
  refine ecalls k_width ?_
  simp [c_width, I]
  refine call0 (len64_ok n h) rfl ?_
  rintro y H' ⟨rfl, r, hr, hle, rfl⟩
  have h1 : IntKind.i64.wrap ((r : Int) + 7) = (r : Int) + 7 := wrap_i64 (by omega) (by omega)
  have h2 : IntKind.i64.wrap (((r : Int) + 7).tdiv 8) = (nb n : Int) := by
    rw [← isLen_nb hr, Int.tdiv_eq_ediv_of_nonneg (by omega), wrap_i64 (by omega) (by omega)]; omega
  simp [I, h1, h2]
  exact fin [] (by simp) rfl rfl rfl ⟨rfl, rfl⟩

/-- A slice of bytes of its own. -/
def R (o : Nat) (l : List UInt8) : EV := .v (.c (.row o l.length))
def RO (l : List UInt8) : EO := .row 5 1 (bsv l)

set_option maxHeartbeats 1000000 in
theorem high_ok (bs : List UInt8) (n : Nat) (m : UInt8) (h : n < 18446744073709551616) (hb : bs.length ≤ 1000000000) :
    ECalls Tryz.prog 60 [R 0 bs, I .u64 n, I .u8 m.toNat] [RO bs] fun y H' => H' = [none, some (RO (bs ++ (dg n).map (· ^^^ m)))] ∧ y = R 1 (bs ++ (dg n).map (· ^^^ m)) := by
  refine ecalls k_high ?_
  simp [c_high, I, R]
  refine call0 (width_ok n h) rfl ?_
  rintro y H' ⟨rfl, rfl⟩
  have h8 := nb_8 h
  simp (disch := omega) [I, wrap_i64]
  refine eloop (α := Nat × List UInt8) (fun a => a.1 ≤ nb n ∧ a.2 ++ (be a.1 n).map (· ^^^ m) = (dg n).map (· ^^^ m)) (fun a => a.1)
    (fun a => [R 1 (bs ++ a.2), I .u64 n, I .u8 m.toNat, .any, .any, .any, .any, I .i64 ((a.1 : Int) - 1), .any, .any, .any, .any, .any, .any, .any, .any, .any, .any, .any, .any, .any, .any, .any, .any, .any, .any]) (fun a => [none, some (RO (bs ++ a.2))]) (nb n, []) [0, 0]
    ⟨Nat.le_refl _, by simp [dg]⟩ (by simp [R, I]) (by simp [RO]) (by simp) (by simp) (by simp) ?_
  rintro ⟨k, ds⟩ ⟨hk, hds⟩
  simp [I, R, RO] at hk hds ⊢
  refine alt (fun hp => ?_) (fun hp => ?_)
  · obtain ⟨j, rfl⟩ : ∃ j, k = j + 1 := ⟨k - 1, by omega⟩
    have hdl := congrArg List.length hds
    simp [be_len, dg_len] at hdl
    simp (disch := omega) [wrap_i64, xor_byte]
    exact ⟨by omega, ⟨by omega, by omega⟩, round (j, ds ++ [b8 (n / 256 ^ j) ^^^ m]) [0, 178] ⟨by simp; omega, by rw [← hds]; simp [be]⟩ (by simp) (by simp [R, I, Nat.add_assoc]) (by simp [RO, bsv, cb]) (by simp) (by simp) (by simp)⟩
  · obtain rfl : k = 0 := by omega
    simp [be] at hds
    subst hds
    simp
    exact fin [1] (by simp) rfl rfl rfl ⟨by simp [RO], by simp [R]⟩

end Go.Proofs.YtpohjnhlhfbnaaaGreatDoor

namespace Go.Proofs.YtpohjnhlhfbnaaaGreatDoor
open Go Go.EW
set_option linter.unusedSimpArgs false

@[simp] def l_New_1 (_ : Unit) : List EOp := [⟨0, (some 0), none, (.q (.mov (.k (.pointer none)))), []⟩]
@[simp] def b_New_2 (_ : Unit) : EB := reg0 (hid l_New_1) 1
@[simp] def l_New_3 (_ : Unit) : List EOp := [⟨0, (some 1), none, (.q (.alloc 117 [(.slice none 0 0)])), []⟩, ⟨1, (some 0), none, (.q (.mov (.t 1))), []⟩]
@[simp] def b_New_4 (_ : Unit) : EB := reg0 (hid l_New_3) 2
@[simp] def b_New_5 (_ : Unit) : EB := .seq (hid b_New_4) .ret
@[simp] def b_New_6 (_ : Unit) : EB := .seq (hid b_New_2) (hid b_New_5)
def c_New : EB × List QOp × Nat := ((hid b_New_6), [(.mov (.t 0))], 2)
theorem k_New : cfun Tryz.prog 36 = some c_New := by kernel_rfl

@[simp] def l_WUint_1 (_ : Unit) : List EOp := [⟨0, (some 4), none, (.q (.mov (.k (.pointer none)))), []⟩]
@[simp] def b_WUint_2 (_ : Unit) : EB := reg0 (hid l_WUint_1) 1
@[simp] def l_WUint_3 (_ : Unit) : List EOp := [⟨0, (some 5), none, (.q (.mov (.t 0))), []⟩, ⟨1, (some 6), none, (.q (.eqp true (.t 5))), []⟩]
@[simp] def b_WUint_4 (_ : Unit) : EB := reg0 (hid l_WUint_3) 2
@[simp] def l_WUint_7 (_ : Unit) : List EOp := [⟨12, (some 19), none, (.q (.nilc (.t 7))), []⟩, ⟨13, (some 20), none, (.q (.fad 0 (.t 19))), []⟩, ⟨14, none, none, (.fz (.sto 1 (.t 20) (.t 18))), []⟩]
@[simp] def l_WUint_6 (_ : Unit) : List EOp := ⟨10, (some 17), none, (.q (.mov (.t 1))), []⟩ :: ⟨6, (some 13), none, (.call 61 [(.t 12)]), [0, 1, 2, 3, 4, 10]⟩ :: ⟨7, (some 14), none, (.q (.cnv .u8 (.t 13))), []⟩ :: ⟨8, (some 15), none, (.q (.bsl 1 [(.int .u8 0)] 1 [(0, (.t 14))])), []⟩ :: ⟨9, (some 16), none, (.app 5 1 1 (.t 11) (.t 15)), [0, 10]⟩ :: ⟨11, (some 18), none, (.call 60 [(.t 16), (.t 17), (.k (.int .u8 0))]), [0]⟩ :: hid l_WUint_7
@[simp] def l_WUint_5 (_ : Unit) : List EOp := ⟨0, (some 7), none, (.q (.mov (.t 0))), []⟩ :: ⟨1, (some 8), none, (.q (.mov (.t 0))), []⟩ :: ⟨2, (some 9), none, (.q (.nilc (.t 8))), []⟩ :: ⟨3, (some 10), none, (.q (.fad 0 (.t 9))), []⟩ :: ⟨4, (some 11), none, (.q (.ldc (.t 10))), []⟩ :: ⟨5, (some 12), none, (.q (.mov (.t 1))), []⟩ :: hid l_WUint_6
@[simp] def b_WUint_8 (_ : Unit) : EB := reg1 (hid l_WUint_5) 15
@[simp] def b_WUint_9 (_ : Unit) : EB := .cond (.t 6) (hid b_WUint_8) .skip
@[simp] def b_WUint_10 (_ : Unit) : EB := .seq (hid b_WUint_4) (hid b_WUint_9)
@[simp] def l_WUint_11 (_ : Unit) : List EOp := [⟨0, (some 21), none, (.q (.mov (.t 0))), []⟩, ⟨1, (some 4), none, (.q (.mov (.t 21))), []⟩]
@[simp] def b_WUint_12 (_ : Unit) : EB := reg0 (hid l_WUint_11) 2
@[simp] def b_WUint_13 (_ : Unit) : EB := .seq (hid b_WUint_12) .ret
@[simp] def b_WUint_14 (_ : Unit) : EB := .seq (hid b_WUint_10) (hid b_WUint_13)
@[simp] def b_WUint_15 (_ : Unit) : EB := .seq (hid b_WUint_2) (hid b_WUint_14)
def c_WUint : EB × List QOp × Nat := ((hid b_WUint_15), [(.mov (.t 4))], 22)
theorem k_WUint : cfun Tryz.prog 38 = some c_WUint := by kernel_rfl

@[simp] def l_WHash_1 (_ : Unit) : List EOp := [⟨0, (some 3), none, (.q (.box 48 (.t 1))), []⟩, ⟨1, (some 4), none, (.q (.mov (.k (.pointer none)))), []⟩]
@[simp] def b_WHash_2 (_ : Unit) : EB := reg0 (hid l_WHash_1) 2
@[simp] def l_WHash_3 (_ : Unit) : List EOp := [⟨0, (some 5), none, (.q (.mov (.t 0))), []⟩, ⟨1, (some 6), none, (.q (.eqp true (.t 5))), []⟩]
@[simp] def b_WHash_4 (_ : Unit) : EB := reg0 (hid l_WHash_3) 2
@[simp] def l_WHash_6 (_ : Unit) : List EOp := [⟨6, (some 13), none, (.app 5 1 1 (.t 11) (.t 12)), [0]⟩, ⟨7, (some 14), none, (.q (.nilc (.t 7))), []⟩, ⟨8, (some 15), none, (.q (.fad 0 (.t 14))), []⟩, ⟨9, none, none, (.fz (.sto 1 (.t 15) (.t 13))), []⟩]
@[simp] def l_WHash_5 (_ : Unit) : List EOp := ⟨0, (some 7), none, (.q (.mov (.t 0))), []⟩ :: ⟨1, (some 8), none, (.q (.mov (.t 0))), []⟩ :: ⟨2, (some 9), none, (.q (.nilc (.t 8))), []⟩ :: ⟨3, (some 10), none, (.q (.fad 0 (.t 9))), []⟩ :: ⟨4, (some 11), none, (.q (.ldc (.t 10))), []⟩ :: ⟨5, (some 12), none, (.q (.sar 32 (.t 3) none none)), []⟩ :: hid l_WHash_6
@[simp] def b_WHash_7 (_ : Unit) : EB := reg1 (hid l_WHash_5) 10
@[simp] def b_WHash_8 (_ : Unit) : EB := .cond (.t 6) (hid b_WHash_7) .skip
@[simp] def b_WHash_9 (_ : Unit) : EB := .seq (hid b_WHash_4) (hid b_WHash_8)
@[simp] def l_WHash_10 (_ : Unit) : List EOp := [⟨0, (some 16), none, (.q (.mov (.t 0))), []⟩, ⟨1, (some 4), none, (.q (.mov (.t 16))), []⟩]
@[simp] def b_WHash_11 (_ : Unit) : EB := reg0 (hid l_WHash_10) 2
@[simp] def b_WHash_12 (_ : Unit) : EB := .seq (hid b_WHash_11) .ret
@[simp] def b_WHash_13 (_ : Unit) : EB := .seq (hid b_WHash_9) (hid b_WHash_12)
@[simp] def b_WHash_14 (_ : Unit) : EB := .seq (hid b_WHash_2) (hid b_WHash_13)
def c_WHash : EB × List QOp × Nat := ((hid b_WHash_14), [(.mov (.t 4))], 17)
theorem k_WHash : cfun Tryz.prog 39 = some c_WHash := by kernel_rfl

@[simp] def l_WDone_1 (_ : Unit) : List EOp := [⟨0, (some 2), none, (.q (.mov (.k (.slice none 0 0)))), []⟩]
@[simp] def b_WDone_2 (_ : Unit) : EB := reg0 (hid l_WDone_1) 1
@[simp] def l_WDone_3 (_ : Unit) : List EOp := [⟨0, (some 3), none, (.q (.mov (.t 0))), []⟩, ⟨1, (some 4), none, (.q (.eqp false (.t 3))), []⟩]
@[simp] def b_WDone_4 (_ : Unit) : EB := reg0 (hid l_WDone_3) 2
@[simp] def l_WDone_5 (_ : Unit) : List EOp := [⟨0, (some 2), none, (.q (.mov (.k (.slice none 0 0)))), []⟩]
@[simp] def b_WDone_6 (_ : Unit) : EB := reg0 (hid l_WDone_5) 1
@[simp] def b_WDone_7 (_ : Unit) : EB := .seq (hid b_WDone_6) .ret
@[simp] def b_WDone_8 (_ : Unit) : EB := .cond (.t 4) (hid b_WDone_7) .skip
@[simp] def b_WDone_9 (_ : Unit) : EB := .seq (hid b_WDone_4) (hid b_WDone_8)
@[simp] def l_WDone_10 (_ : Unit) : List EOp := [⟨0, (some 5), none, (.q (.mov (.t 0))), []⟩, ⟨1, (some 6), none, (.q (.nilc (.t 5))), []⟩, ⟨2, (some 7), none, (.q (.fad 0 (.t 6))), []⟩, ⟨3, (some 8), none, (.q (.ldc (.t 7))), []⟩, ⟨4, (some 9), none, (.call 62 [(.t 8)]), []⟩, ⟨5, (some 2), none, (.q (.mov (.t 9))), []⟩]
@[simp] def b_WDone_11 (_ : Unit) : EB := reg0 (hid l_WDone_10) 6
@[simp] def b_WDone_12 (_ : Unit) : EB := .seq (hid b_WDone_11) .ret
@[simp] def b_WDone_13 (_ : Unit) : EB := .seq (hid b_WDone_9) (hid b_WDone_12)
@[simp] def b_WDone_14 (_ : Unit) : EB := .seq (hid b_WDone_2) (hid b_WDone_13)
def c_WDone : EB × List QOp × Nat := ((hid b_WDone_14), [(.mov (.t 2))], 10)
theorem k_WDone : cfun Tryz.prog 40 = some c_WDone := by kernel_rfl

@[simp] def l_CloneB_1 (_ : Unit) : List EOp := [⟨0, (some 2), none, (.q (.mov (.k (.slice none 0 0)))), []⟩]
@[simp] def b_CloneB_2 (_ : Unit) : EB := reg0 (hid l_CloneB_1) 1
@[simp] def l_CloneB_3 (_ : Unit) : List EOp := [⟨0, (some 3), none, (.q (.mov (.t 0))), []⟩, ⟨1, (some 4), none, (.nild false (.t 3)), []⟩]
@[simp] def b_CloneB_4 (_ : Unit) : EB := reg0 (hid l_CloneB_3) 2
@[simp] def l_CloneB_5 (_ : Unit) : List EOp := [⟨0, (some 2), none, (.q (.mov (.k (.slice none 0 0)))), []⟩]
@[simp] def b_CloneB_6 (_ : Unit) : EB := reg0 (hid l_CloneB_5) 1
@[simp] def b_CloneB_7 (_ : Unit) : EB := .seq (hid b_CloneB_6) .ret
@[simp] def b_CloneB_8 (_ : Unit) : EB := .cond (.t 4) (hid b_CloneB_7) .skip
@[simp] def b_CloneB_9 (_ : Unit) : EB := .seq (hid b_CloneB_4) (hid b_CloneB_8)
@[simp] def l_CloneB_10 (_ : Unit) : List EOp := [⟨0, (some 5), none, (.q (.bsr 5 1 [(.int .u8 0)] 0 [])), []⟩, ⟨1, (some 6), none, (.q (.mov (.t 0))), []⟩, ⟨2, (some 7), none, (.app 5 1 1 (.t 5) (.t 6)), []⟩, ⟨3, (some 2), none, (.q (.mov (.t 7))), []⟩]
@[simp] def b_CloneB_11 (_ : Unit) : EB := reg0 (hid l_CloneB_10) 4
@[simp] def b_CloneB_12 (_ : Unit) : EB := .seq (hid b_CloneB_11) .ret
@[simp] def b_CloneB_13 (_ : Unit) : EB := .seq (hid b_CloneB_9) (hid b_CloneB_12)
@[simp] def b_CloneB_14 (_ : Unit) : EB := .seq (hid b_CloneB_2) (hid b_CloneB_13)
def c_CloneB : EB × List QOp × Nat := ((hid b_CloneB_14), [(.mov (.t 2))], 8)
theorem k_CloneB : cfun Tryz.prog 62 = some c_CloneB := by kernel_rfl


def Ptr (o : Nat) : EV := .v (.c (.ptr o 0))
def NP : EV := .v (.c (.fz (.lit (.pointer none))))
/-- A writer, and its line. -/
def WO (r : Nat) (l : List UInt8) : EO := .box 117 [.row r l.length]
def uintB (n : Nat) : List UInt8 := b8 (nb n) :: dg n

theorem xor0 (l : List UInt8) : l.map (· ^^^ 0) = l := by
  induction l with
  | nil => rfl
  | cons x r ih => rw [List.map_cons, ih]; simp

theorem New_ok : ECalls Tryz.prog 36 [] [] fun y H' => H' = [some (WO 1 []), some (RO [])] ∧ y = Ptr 0 := by
  refine ecalls k_New ?_
  simp [c_New]
  refine finW _ (weak_nil (o := 16) (k := 0) (ty := 5) (es := 1) rfl rfl (by omega)) ?_
  exact fin [16, 48] (by simp) rfl rfl rfl ⟨rfl, rfl⟩

theorem clone_ok (l : List UInt8) (hl : l.length ≤ 1000000000) : ECalls Tryz.prog 62 [Bs l] [] fun y H' => H' = [some (RO l)] ∧ y = R 0 l := by
  refine ecalls k_CloneB ?_
  simp [c_CloneB, Bs]
  refine both (fun h => ?_) (fun _ => ?_)
  · simp
    refine finW _ (weak_nilR 2 5 1 rfl (by omega)) ?_
    exact fin [64] (by decide) rfl rfl rfl ⟨by rw [h]; rfl, by rw [h]; rfl⟩
  · simp
    exact ⟨by omega, fin [80] (by decide) rfl rfl rfl ⟨rfl, rfl⟩⟩

set_option maxHeartbeats 1000000 in
theorem WUint_ok (bs : List UInt8) (n : Nat) (h : n < 18446744073709551616) (hb : bs.length ≤ 900000000) :
    ECalls Tryz.prog 38 [Ptr 0, I .u64 n] [WO 1 bs, RO bs] fun y H' => H' = [some (WO 2 (bs ++ uintB n)), none, some (RO (bs ++ uintB n))] ∧ y = Ptr 0 := by
  have h8 := nb_8 h
  refine ecalls k_WUint ?_
  simp [c_WUint, I, Ptr, WO, RO]
  refine call0 (width_ok n h) rfl ?_
  rintro y H' ⟨rfl, rfl⟩
  simp (disch := omega) [I, wrap_u8_nat, Wok]
  refine ⟨by omega, callH [194] (high_ok (bs ++ [b8 (nb n)]) n 0 h (by simp; omega)) (by simp [R, I]) (by simp [RO, bsv, cb]) (by simp) (by simp) (by simp [Wok]) ?_⟩
  rintro y H' ⟨rfl, rfl⟩
  refine ⟨.inl rfl, le_ok rfl, ?_⟩
  simp [R, xor0]
  exact fin [226] (by decide) rfl rfl rfl ⟨by simp [RO, uintB], rfl⟩

theorem WUint_nil (n : Nat) : ECalls Tryz.prog 38 [NP, I .u64 n] [] fun y H' => H' = [] ∧ y = NP := by
  refine ecalls k_WUint ?_
  simp [c_WUint, I, NP]
  exact fin [] (by simp) rfl rfl rfl ⟨rfl, rfl⟩

def intB (n : Int) : List UInt8 := if n < 0 then b8 (127 - nb (-n - 1).toNat) :: (dg (-n - 1).toNat).map (· ^^^ 255) else b8 (128 + nb n.toNat) :: dg n.toNat

def stuffB (l : List UInt8) : List UInt8 := l.flatMap fun c => if c = 0 then [0, 255] else [c]
def bytesB (l : List UInt8) : List UInt8 := stuffB l ++ [0, 0]
theorem stuff_len (l : List UInt8) : (stuffB l).length ≤ 2 * l.length := by
  induction l with
  | nil => simp [stuffB]
  | cons x r ih =>
    have : (stuffB (x :: r)).length = (if x = 0 then [0, 255] else [x] : List UInt8).length + (stuffB r).length := by simp [stuffB]
    rw [this]
    split <;> simp <;> omega
theorem stuff_snoc (l : List UInt8) (c : UInt8) : stuffB (l ++ [c]) = stuffB l ++ (if c = 0 then [0, 255] else [c]) := by simp [stuffB]
theorem take_snoc {l : List UInt8} {i : Nat} {c : UInt8} (h : l[i]? = some c) : l.take (i + 1) = l.take i ++ [c] := by
  rw [List.take_add_one, h]; rfl

theorem WHash_nil (h : List UInt8) : ECalls Tryz.prog 39 [NP, Ag h] [] fun y H' => H' = [] ∧ y = NP := by
  refine ecalls k_WHash ?_
  simp [c_WHash, NP, Ag]
  exact fin [] (by simp) rfl rfl rfl ⟨rfl, rfl⟩

set_option maxHeartbeats 1000000 in
theorem WHash_ok (bs h : List UInt8) (hb : bs.length ≤ 900000000) (hl : h.length = 32) :
    ECalls Tryz.prog 39 [Ptr 0, Ag h] [WO 1 bs, RO bs] fun y H' => H' = [some (WO 2 (bs ++ h)), none, some (RO (bs ++ h))] ∧ y = Ptr 0 := by
  refine ecalls k_WHash ?_
  have ht : h.take 32 = h := List.take_of_length_le (by omega)
  simp [c_WHash, Ptr, WO, RO, Ag, ht]
  exact ⟨by omega, by omega, fin [162] (by decide) rfl rfl rfl ⟨by simp, rfl⟩⟩

theorem WDone_ok (bs : List UInt8) (hb : bs.length ≤ 1000000000) : ECalls Tryz.prog 40 [Ptr 0] [WO 1 bs, RO bs] fun y H' => H' = [some (WO 1 bs), some (RO bs), some (RO bs)] ∧ y = R 2 bs := by
  refine ecalls k_WDone ?_
  simp [c_WDone, Ptr, WO, RO]
  refine call0 (clone_ok bs hb) (by simp [Bs]) ?_
  rintro y H' ⟨rfl, rfl⟩
  refine ⟨.inr ⟨rfl, by simp [RO, noSlO, bsv, cb]⟩, le_ok rfl, ?_⟩
  simp [R, RO]
  exact fin [114] (by decide) rfl rfl rfl ⟨rfl, rfl⟩

theorem WDone_nil : ECalls Tryz.prog 40 [NP] [] fun y H' => H' = [] ∧ y = .v (.c (.fz (.lit (.slice none 0 0)))) := by
  refine ecalls k_WDone ?_
  simp [c_WDone, NP]
  exact fin [] (by simp) rfl rfl rfl ⟨rfl, rfl⟩

end Go.Proofs.YtpohjnhlhfbnaaaGreatDoor

namespace Go.Proofs.YtpohjnhlhfbnaaaGreatDoor
open Go Go.EW
set_option linter.unusedSimpArgs false

@[simp] def l_Read_1 (_ : Unit) : List EOp := [⟨0, (some 2), none, (.q (.mov (.k (.pointer none)))), []⟩]
@[simp] def b_Read_2 (_ : Unit) : EB := reg0 (hid l_Read_1) 1
@[simp] def l_Read_3 (_ : Unit) : List EOp := [⟨0, (some 3), none, (.q (.mov (.t 0))), []⟩, ⟨1, (some 4), none, (.q (.build [(.slice none 0 0), (.int .i64 0), .nilIface] [(0, 1, (.t 3))])), []⟩, ⟨2, (some 5), none, (.q (.box 96 (.t 4))), []⟩, ⟨3, (some 2), none, (.q (.mov (.t 5))), []⟩]
@[simp] def b_Read_4 (_ : Unit) : EB := reg0 (hid l_Read_3) 4
@[simp] def b_Read_5 (_ : Unit) : EB := .seq (hid b_Read_4) .ret
@[simp] def b_Read_6 (_ : Unit) : EB := .seq (hid b_Read_2) (hid b_Read_5)
def c_Read : EB × List QOp × Nat := ((hid b_Read_6), [(.mov (.t 2))], 6)
theorem k_Read : cfun Tryz.prog 20 = some c_Read := by kernel_rfl

@[simp] def l_off_1 (_ : Unit) : List EOp := [⟨0, (some 2), none, (.q (.mov (.k (.bool false)))), []⟩]
@[simp] def b_off_2 (_ : Unit) : EB := reg0 (hid l_off_1) 1
@[simp] def l_off_4 (_ : Unit) : List EOp := [⟨6, (some 9), (some (5, false)), (.q (.ldc (.t 8))), []⟩, ⟨7, (some 10), (some (5, false)), (.q (.eqi true (.t 9))), []⟩, ⟨8, (some 11), none, (.q (.pick (.t 5) (.k (.bool true)) (.t 10))), []⟩, ⟨9, (some 2), none, (.q (.mov (.t 11))), []⟩]
@[simp] def l_off_3 (_ : Unit) : List EOp := ⟨0, (some 3), none, (.q (.mov (.t 0))), []⟩ :: ⟨1, (some 4), none, (.q (.eqp false (.t 3))), []⟩ :: ⟨2, (some 5), none, (.q (.mov (.t 4))), []⟩ :: ⟨3, (some 6), (some (5, false)), (.q (.mov (.t 0))), []⟩ :: ⟨4, (some 7), (some (5, false)), (.q (.nilc (.t 6))), []⟩ :: ⟨5, (some 8), (some (5, false)), (.q (.fad 2 (.t 7))), []⟩ :: hid l_off_4
@[simp] def b_off_5 (_ : Unit) : EB := reg0 (hid l_off_3) 10
@[simp] def b_off_6 (_ : Unit) : EB := .seq (hid b_off_5) .ret
@[simp] def b_off_7 (_ : Unit) : EB := .seq (hid b_off_2) (hid b_off_6)
def c_off : EB × List QOp × Nat := ((hid b_off_7), [(.mov (.t 2))], 12)
theorem k_off : cfun Tryz.prog 47 = some c_off := by kernel_rfl

@[simp] def l_rest_1 (_ : Unit) : List EOp := [⟨0, (some 2), none, (.q (.mov (.k (.slice none 0 0)))), []⟩]
@[simp] def b_rest_2 (_ : Unit) : EB := reg0 (hid l_rest_1) 1
@[simp] def l_rest_4 (_ : Unit) : List EOp := [⟨6, (some 9), none, (.q (.fad 1 (.t 8))), []⟩, ⟨7, (some 10), none, (.q (.ldc (.t 9))), []⟩, ⟨8, (some 11), none, (.q (.ssl 1 (.t 6) (some (.t 10)) none)), []⟩, ⟨9, (some 2), none, (.q (.mov (.t 11))), []⟩]
@[simp] def l_rest_3 (_ : Unit) : List EOp := ⟨0, (some 3), none, (.q (.mov (.t 0))), []⟩ :: ⟨1, (some 4), none, (.q (.nilc (.t 3))), []⟩ :: ⟨2, (some 5), none, (.q (.fad 0 (.t 4))), []⟩ :: ⟨3, (some 6), none, (.q (.ldc (.t 5))), []⟩ :: ⟨4, (some 7), none, (.q (.mov (.t 0))), []⟩ :: ⟨5, (some 8), none, (.q (.nilc (.t 7))), []⟩ :: hid l_rest_4
@[simp] def b_rest_5 (_ : Unit) : EB := reg0 (hid l_rest_3) 10
@[simp] def b_rest_6 (_ : Unit) : EB := .seq (hid b_rest_5) .ret
@[simp] def b_rest_7 (_ : Unit) : EB := .seq (hid b_rest_2) (hid b_rest_6)
def c_rest : EB × List QOp × Nat := ((hid b_rest_7), [(.mov (.t 2))], 12)
theorem k_rest : cfun Tryz.prog 49 = some c_rest := by kernel_rfl

@[simp] def l_fail_1 (_ : Unit) : List EOp := [⟨0, (some 4), none, (.q (.mov (.t 0))), []⟩, ⟨1, (some 5), none, (.q (.nilc (.t 4))), []⟩, ⟨2, (some 6), none, (.q (.fad 2 (.t 5))), []⟩, ⟨3, (some 7), none, (.q (.ldc (.t 6))), []⟩, ⟨4, (some 8), none, (.q (.eqi false (.t 7))), []⟩]
@[simp] def b_fail_2 (_ : Unit) : EB := reg0 (hid l_fail_1) 5
@[simp] def l_fail_3 (_ : Unit) : List EOp := [⟨0, (some 9), none, (.q (.mov (.t 0))), []⟩, ⟨1, (some 10), none, (.q (.mov (.t 1))), []⟩, ⟨2, (some 11), none, (.q (.nilc (.t 9))), []⟩, ⟨3, (some 12), none, (.q (.fad 2 (.t 11))), []⟩, ⟨4, none, none, (.sto 1 (.t 12) (.t 10)), []⟩]
@[simp] def b_fail_4 (_ : Unit) : EB := reg0 (hid l_fail_3) 5
@[simp] def b_fail_5 (_ : Unit) : EB := .cond (.t 8) (hid b_fail_4) .skip
@[simp] def b_fail_6 (_ : Unit) : EB := .seq (hid b_fail_2) (hid b_fail_5)
def c_fail : EB × List QOp × Nat := ((hid b_fail_6), [], 13)
theorem k_fail : cfun Tryz.prog 50 = some c_fail := by kernel_rfl

@[simp] def l_low_1 (_ : Unit) : List EOp := [⟨0, (some 6), none, (.q (.mov (.k (.int .u64 0)))), []⟩, ⟨1, (some 7), none, (.q (.mov (.k .nilIface))), []⟩]
@[simp] def b_low_2 (_ : Unit) : EB := reg0 (hid l_low_1) 2
@[simp] def l_low_3 (_ : Unit) : List EOp := [⟨0, (some 12), none, (.q (.mov (.t 0))), []⟩, ⟨1, (some 13), none, (.call 49 [(.t 12)]), []⟩, ⟨2, (some 14), none, (.q (.ssl 1 (.t 13) (some (.k (.int .i64 1))) none)), []⟩, ⟨3, (some 8), none, (.q (.mov (.t 14))), []⟩]
@[simp] def b_low_4 (_ : Unit) : EB := reg0 (hid l_low_3) 4
@[simp] def l_low_5 (_ : Unit) : List EOp := [⟨0, (some 15), none, (.q (.mov (.t 8))), []⟩, ⟨1, (some 16), none, (.q (.len (.t 15))), []⟩, ⟨2, (some 17), none, (.q (.mov (.t 1))), []⟩, ⟨3, (some 18), none, (.q (.bin .lss (.t 16) (.t 17))), []⟩]
@[simp] def b_low_6 (_ : Unit) : EB := reg0 (hid l_low_5) 4
@[simp] def l_low_7 (_ : Unit) : List EOp := [⟨0, (some 19), none, (.q (.mki 68 (.k (.int .i64 12)))), []⟩, ⟨1, (some 6), none, (.q (.mov (.k (.int .u64 0)))), []⟩, ⟨2, (some 7), none, (.q (.mov (.t 19))), []⟩]
@[simp] def b_low_8 (_ : Unit) : EB := reg0 (hid l_low_7) 3
@[simp] def b_low_9 (_ : Unit) : EB := .seq (hid b_low_8) .ret
@[simp] def b_low_10 (_ : Unit) : EB := .cond (.t 18) (hid b_low_9) .skip
@[simp] def b_low_11 (_ : Unit) : EB := .seq (hid b_low_6) (hid b_low_10)
@[simp] def l_low_13 (_ : Unit) : List EOp := [⟨6, (some 26), (some (22, true)), (.q (.mov (.t 2))), []⟩, ⟨7, (some 27), (some (22, true)), (.q (.bin .eql (.t 25) (.t 26))), []⟩, ⟨8, (some 28), none, (.q (.pick (.t 22) (.t 27) (.k (.bool false)))), []⟩]
@[simp] def l_low_12 (_ : Unit) : List EOp := ⟨0, (some 20), none, (.q (.mov (.t 1))), []⟩ :: ⟨1, (some 21), none, (.q (.bin .gtr (.t 20) (.k (.int .i64 0)))), []⟩ :: ⟨2, (some 22), none, (.q (.mov (.t 21))), []⟩ :: ⟨3, (some 23), (some (22, true)), (.q (.mov (.t 8))), []⟩ :: ⟨4, (some 24), (some (22, true)), (.q (.isl 1 (.t 23) (.k (.int .i64 0)))), []⟩ :: ⟨5, (some 25), (some (22, true)), (.q (.ldc (.t 24))), []⟩ :: hid l_low_13
@[simp] def b_low_14 (_ : Unit) : EB := reg0 (hid l_low_12) 9
@[simp] def l_low_15 (_ : Unit) : List EOp := [⟨0, (some 29), none, (.q (.mki 68 (.k (.int .i64 3)))), []⟩, ⟨1, (some 6), none, (.q (.mov (.k (.int .u64 0)))), []⟩, ⟨2, (some 7), none, (.q (.mov (.t 29))), []⟩]
@[simp] def b_low_16 (_ : Unit) : EB := reg0 (hid l_low_15) 3
@[simp] def b_low_17 (_ : Unit) : EB := .seq (hid b_low_16) .ret
@[simp] def b_low_18 (_ : Unit) : EB := .cond (.t 28) (hid b_low_17) .skip
@[simp] def b_low_19 (_ : Unit) : EB := .seq (hid b_low_14) (hid b_low_18)
@[simp] def l_low_20 (_ : Unit) : List EOp := [⟨0, (some 9), none, (.q (.mov (.k (.int .u64 0)))), []⟩]
@[simp] def b_low_21 (_ : Unit) : EB := reg0 (hid l_low_20) 1
@[simp] def l_low_22 (_ : Unit) : List EOp := [⟨0, (some 30), none, (.q (.mov (.t 8))), []⟩, ⟨1, (some 31), none, (.q (.mov (.t 1))), []⟩, ⟨2, (some 32), none, (.q (.ssl 1 (.t 30) none (some (.t 31)))), []⟩, ⟨3, (some 33), none, (.q (.len (.t 32))), []⟩, ⟨4, (some 34), none, (.q (.mov (.k (.int .i64 0)))), []⟩]
@[simp] def b_low_23 (_ : Unit) : EB := reg0 (hid l_low_22) 5
@[simp] def l_low_24 (_ : Unit) : List EOp := [⟨0, (some 35), none, (.q (.bin .lss (.t 34) (.t 33))), []⟩]
@[simp] def b_low_25 (_ : Unit) : EB := reg0 (hid l_low_24) 1
@[simp] def b_low_26 (_ : Unit) : EB := .cond (.t 35) .skip (.exit 0)
@[simp] def l_low_27 (_ : Unit) : List EOp := [⟨0, (some 36), none, (.q (.isl 1 (.t 32) (.t 34))), []⟩, ⟨1, (some 37), none, (.q (.ldc (.t 36))), []⟩, ⟨2, (some 11), none, (.q (.mov (.t 37))), []⟩]
@[simp] def b_low_28 (_ : Unit) : EB := reg0 (hid l_low_27) 3
@[simp] def l_low_30 (_ : Unit) : List EOp := [⟨6, (some 44), none, (.q (.bin .or (.t 39) (.t 43))), []⟩, ⟨7, (some 9), none, (.q (.mov (.t 44))), []⟩]
@[simp] def l_low_29 (_ : Unit) : List EOp := ⟨0, (some 38), none, (.q (.mov (.t 9))), []⟩ :: ⟨1, (some 39), none, (.q (.bin .shl (.t 38) (.k (.int .u64 8)))), []⟩ :: ⟨2, (some 40), none, (.q (.mov (.t 11))), []⟩ :: ⟨3, (some 41), none, (.q (.mov (.t 2))), []⟩ :: ⟨4, (some 42), none, (.q (.bin .xor (.t 40) (.t 41))), []⟩ :: ⟨5, (some 43), none, (.q (.cnv .u64 (.t 42))), []⟩ :: hid l_low_30
@[simp] def b_low_31 (_ : Unit) : EB := reg0 (hid l_low_29) 8
@[simp] def b_low_32 (_ : Unit) : EB := .seq (hid b_low_28) (hid b_low_31)
@[simp] def b_low_33 (_ : Unit) : EB := .block 1 (hid b_low_32)
@[simp] def l_low_34 (_ : Unit) : List EOp := [⟨0, (some 45), none, (.q (.bin .add (.t 34) (.k (.int .i64 1)))), []⟩, ⟨1, (some 34), none, (.q (.mov (.t 45))), []⟩]
@[simp] def b_low_35 (_ : Unit) : EB := reg0 (hid l_low_34) 2
@[simp] def b_low_36 (_ : Unit) : EB := .seq (hid b_low_33) (hid b_low_35)
@[simp] def b_low_37 (_ : Unit) : EB := .seq (hid b_low_26) (hid b_low_36)
@[simp] def b_low_38 (_ : Unit) : EB := .seq (hid b_low_25) (hid b_low_37)
@[simp] def b_low_39 (_ : Unit) : EB := .loop (hid b_low_38)
@[simp] def b_low_40 (_ : Unit) : EB := .block 0 (hid b_low_39)
@[simp] def b_low_41 (_ : Unit) : EB := .seq (hid b_low_23) (hid b_low_40)
@[simp] def l_low_42 (_ : Unit) : List EOp := [⟨0, (some 46), none, (.q (.mov (.t 9))), []⟩, ⟨1, (some 6), none, (.q (.mov (.t 46))), []⟩, ⟨2, (some 7), none, (.q (.mov (.k .nilIface))), []⟩]
@[simp] def b_low_43 (_ : Unit) : EB := reg0 (hid l_low_42) 3
@[simp] def b_low_44 (_ : Unit) : EB := .seq (hid b_low_43) .ret
@[simp] def b_low_45 (_ : Unit) : EB := .seq (hid b_low_41) (hid b_low_44)
@[simp] def b_low_46 (_ : Unit) : EB := .seq (hid b_low_21) (hid b_low_45)
@[simp] def b_low_47 (_ : Unit) : EB := .seq (hid b_low_19) (hid b_low_46)
@[simp] def b_low_48 (_ : Unit) : EB := .seq (hid b_low_11) (hid b_low_47)
@[simp] def b_low_49 (_ : Unit) : EB := .seq (hid b_low_4) (hid b_low_48)
@[simp] def b_low_50 (_ : Unit) : EB := .seq (hid b_low_2) (hid b_low_49)
def c_low : EB × List QOp × Nat := ((hid b_low_50), [(.mov (.t 6)), (.mov (.t 7))], 47)
theorem k_low : cfun Tryz.prog 73 = some c_low := by kernel_rfl


/-- An error, by its number. -/
def errV (e : Nat) : Value := if e = 0 then .nilIface else .iface 68 (.int .i64 e)
@[simp] theorem eqiv_errV (e : Nat) : eqiv (errV e) = some (decide (e = 0)) := by
  unfold errV
  split <;> simp [eqiv, *]
@[simp] theorem cst_errV (e : Nat) : cst (errV e) = .v (.c (.fz (.lit (errV e)))) := by
  unfold errV
  split <;> rfl
@[simp] theorem errV_0 : Value.nilIface = errV 0 := rfl
@[simp] theorem errV_1 : Value.iface 68 (.int .i64 1) = errV 1 := rfl
@[simp] theorem errV_2 : Value.iface 68 (.int .i64 2) = errV 2 := rfl
@[simp] theorem errV_3 : Value.iface 68 (.int .i64 3) = errV 3 := rfl
@[simp] theorem errV_4 : Value.iface 68 (.int .i64 4) = errV 4 := rfl
@[simp] theorem errV_12 : Value.iface 68 (.int .i64 12) = errV 12 := rfl

/-- A reader: its line, its place, its error. -/
def RdO (l : List UInt8) (at' e : Nat) : EO := .box 96 [.fz (.sl 1 (bsv l)), .fz (.lit (.int .i64 at')), .fz (.lit (errV e))]

theorem Read_ok (l : List UInt8) : ECalls Tryz.prog 20 [Bs l] [] fun y H' => H' = [some (RdO l 0 0)] ∧ y = Ptr 0 := by
  refine ecalls k_Read ?_
  simp [c_Read, Bs, litc, -errV_0]
  exact fin [48] (by decide) rfl rfl rfl ⟨rfl, rfl⟩

theorem off_ok (l : List UInt8) (p e : Nat) : ECalls Tryz.prog 47 [Ptr 0] [RdO l p e] fun y H' => H' = [some (RdO l p e)] ∧ y = .lit (.bool (decide (e ≠ 0))) := by
  refine ecalls k_off ?_
  simp [c_off, Ptr, RdO]
  exact fin [] (by decide) rfl rfl rfl ⟨rfl, by simp⟩

theorem off_nil : ECalls Tryz.prog 47 [NP] [] fun y H' => H' = [] ∧ y = .lit (.bool true) := by
  refine ecalls k_off ?_
  simp [c_off, NP]
  exact fin [] (by decide) rfl rfl rfl ⟨rfl, rfl⟩

theorem rest_ok (l : List UInt8) (p e : Nat) (hp : p ≤ l.length) : ECalls Tryz.prog 49 [Ptr 0] [RdO l p e] fun y H' => H' = [some (RdO l p e)] ∧ y = Bs (l.drop p) := by
  refine ecalls k_rest ?_
  simp [c_rest, Ptr, RdO]
  exact ⟨by omega, fin [] (by decide) rfl rfl rfl ⟨rfl, rfl⟩⟩

theorem fail_ok (l : List UInt8) (p e k : Nat) : ECalls Tryz.prog 50 [Ptr 0, .lit (errV k)] [RdO l p e] fun y H' => H' = [some (RdO l p (if e = 0 then k else e))] ∧ y = .tup [] := by
  refine ecalls k_fail ?_
  simp [c_fail, Ptr, RdO]
  refine alt (fun h => ?_) (fun h => ?_)
  · simp
    exact fin [] (by decide) rfl rfl rfl ⟨by simp [h], rfl⟩
  · simp
    exact fin [] (by decide) rfl rfl rfl ⟨by simp [h], rfl⟩

/-- Bytes as a number. -/
def valB (l : List UInt8) : Nat := l.foldl (fun n c => 256 * n + c.toNat) 0
/-- So many bytes, each turned: the number; an error. -/
def lowS (b : List UInt8) (many : Nat) (mask : UInt8) : Nat × Nat :=
  if b.length < many then (0, 12) else if 0 < many ∧ b[0]? = some mask then (0, 3) else (valB ((b.take many).map (· ^^^ mask)), 0)
theorem val_snoc (l : List UInt8) (c : UInt8) : valB (l ++ [c]) = 256 * valB l + c.toNat := by simp [valB]
theorem val_lt (l : List UInt8) : valB l < 256 ^ l.length := by
  have key : ∀ (l : List UInt8) (n k : Nat), n < 256 ^ k → l.foldl (fun n c => 256 * n + c.toNat) n < 256 ^ (k + l.length) := by
    intro l
    induction l with
    | nil => intro n k h; simpa using h
    | cons c r ih =>
      intro n k h
      have hc := c.toNat_lt
      have := ih (256 * n + c.toNat) (k + 1) (by rw [Nat.pow_succ]; simp at hc; omega)
      rw [List.foldl_cons, List.length_cons, show k + (r.length + 1) = k + 1 + r.length by omega]
      exact this
  have := key l 0 0 (by simp)
  simpa [valB] using this
theorem or_byte (n : Nat) (c : UInt8) (h : 256 * n + 256 ≤ 18446744073709551616) : ibit .or .u64 (ishl .u64 (n : Int) 8) (c.toNat : Int) = ((256 * n + c.toNat : Nat) : Int) := by
  have hc := c.toNat_lt
  simp at hc
  have e1 : ishl .u64 (n : Int) 8 = ((256 * n : Nat) : Int) := by
    simp only [ishl]
    rw [show min (8 : Int).toNat IntKind.u64.bits = 8 from rfl, wrap_u64 (by omega) (by omega)]
    omega
  rw [e1]
  simp only [ibit]
  have e2 : (BitVec.ofInt IntKind.u64.bits ((256 * n : Nat) : Int) ||| BitVec.ofInt IntKind.u64.bits (c.toNat : Int)).toNat = 256 * n + c.toNat := by
    rw [BitVec.toNat_or, BitVec.ofInt_natCast, BitVec.ofInt_natCast, BitVec.toNat_ofNat, BitVec.toNat_ofNat, Nat.mod_eq_of_lt (show 256 * n < 2 ^ IntKind.u64.bits by simp [IntKind.bits]; omega), Nat.mod_eq_of_lt (show c.toNat < 2 ^ IntKind.u64.bits by simp [IntKind.bits]; omega)]
    have := Nat.shiftLeft_add_eq_or_of_lt (b := c.toNat) (i := 8) (by omega) n
    rw [Nat.shiftLeft_eq] at this
    rw [show 256 * n = n * 2 ^ 8 by omega]
    exact this.symm
  rw [e2, wrap_u64 (by omega) (by omega)]

theorem low_ok (l : List UInt8) (p e many : Nat) (mask : UInt8) (hp : p < l.length) (hm : many ≤ 8) :
    ECalls Tryz.prog 73 [Ptr 0, I .i64 many, I .u8 mask.toNat] [RdO l p e] fun y H' => H' = [some (RdO l p e)] ∧ y = .tup [.c (.fz (.lit (.int .u64 (lowS (l.drop (p + 1)) many mask).1))), .c (.fz (.lit (errV (lowS (l.drop (p + 1)) many mask).2)))] := by
  refine ecalls k_low ?_
  simp [c_low, Ptr, I]
  refine callH [0] (rest_ok l p e (by omega)) (by simp [Ptr]) (by simp [RdO]) (by simp) (by simp) (by simp) ?_
  rintro y H' ⟨rfl, rfl⟩
  refine ⟨.inl rfl, le_ok rfl, ?_⟩
  obtain ⟨b, hb⟩ : ∃ b, l.drop (p + 1) = b := ⟨_, rfl⟩
  have ht : List.take (l.length - p) (List.drop p l) = List.drop p l := List.take_of_length_le (by rw [List.length_drop]; exact Nat.le_refl _)
  simp [RdO, Bs, ht, hb]
  have hbl : b.length = l.length - p - 1 := by rw [← hb, List.length_drop]; omega
  have hdd : List.drop 1 (List.drop p l) = b := by rw [List.drop_drop]; exact hb
  refine ⟨by omega, alt (fun h1 => ?_) (fun h1 => ?_)⟩
  · simp
    exact fin [] (by decide) rfl rfl rfl ⟨rfl, by simp [lowS, show b.length < many by omega]⟩
  have hm2 : many ≤ l.length - p - 1 := by omega
  have hlm : (b.take many).length = many := by rw [List.length_take]; omega
  by_cases h2 : 0 < many
  · obtain ⟨c0, hc0⟩ : ∃ c, b[0]? = some c := ⟨b[0]'(by omega), by simp⟩
    have hcb0 : (bsv b)[0]? = some (cb c0) := by simp only [bsv, List.getElem?_map, hc0]; rfl
    simp [h2, hb, hcb0, cb]
    refine alt (fun h3 => ?_) (fun h3 => ?_)
    · simp
      have : c0 = mask := UInt8.toNat_inj.1 (by omega)
      subst this
      exact fin [] (by decide) rfl rfl rfl ⟨rfl, by simp [lowS, hc0, h2, show ¬ b.length < many by omega]⟩
    have hS : lowS b many mask = (valB ((b.take many).map (· ^^^ mask)), 0) := by
      rw [lowS, if_neg (by omega), if_neg]
      rintro ⟨_, h⟩
      rw [hc0] at h
      exact h3 (by rw [Option.some.inj h])
    have hmn : min many b.length = many := by omega
    obtain ⟨ms, hms⟩ : ∃ ms, (b.take many).map (· ^^^ mask) = ms := ⟨_, rfl⟩
    have hml : ms.length = many := by rw [← hms, List.length_map, hlm]
    rw [hms] at hS
    rw [hS]
    simp [hm2, hdd]
    refine ⟨by omega, ?_⟩
    refine eloop (α := Nat) (fun i => i ≤ many) (fun i => many - i)
      (fun i => [.any, .any, I .u8 mask.toNat, .any, .any, .any, .any, .any, .any, I .u64 (valB (ms.take i)), .any, .any, .any, .any, .any, .any, .any, .any, .any, .any, .any, .any, .any, .any, .any, .any, .any, .any, .any, .any, .any, .any, Bs (b.take many), I .i64 many, I .i64 i, .any, .any, .any, .any, .any, .any, .any, .any, .any, .any, .any, .any]) (fun i => [some (RdO l p e)]) 0 [0]
      (Nat.zero_le _) (by simp [Bs, I, valB, hmn]) (by simp [RdO]) (by simp) (by decide) (by simp) ?_
    intro i hi
    simp [I, Bs, RdO]
    refine alt (fun hp => ?_) (fun hp => ?_)
    · obtain ⟨c, hc⟩ : ∃ c, (b.take many)[i]? = some c := ⟨(b.take many)[i]'(by omega), by simp [hlm, hp]⟩
      have hcb : (bsv (b.take many))[i]? = some (cb c) := by simp only [bsv, List.getElem?_map, hc]; rfl
      obtain ⟨x, hx⟩ : ∃ x, c ^^^ mask = x := ⟨_, rfl⟩
      have hts := take_snoc (l := ms) (i := i) (c := x) (by rw [← hms, ← hx, List.getElem?_map, hc]; rfl)
      have hv := val_lt (ms.take i)
      have hvl : (ms.take i).length = i := by rw [List.length_take, hml]; omega
      rw [hvl] at hv
      have hv8 : 256 ^ i ≤ 256 ^ 7 := Nat.pow_le_pow_right (by omega) (by omega)
      have hc64 := x.toNat_lt
      have w1 : IntKind.i64.wrap ((i : Int) + 1) = ((i + 1 : Nat) : Int) := wrap_i64 (by omega) (by omega)
      have w4 : ibit .xor .u8 c.toNat mask.toNat = x.toNat := by rw [ibit_xor_u8, hx]
      have w2 : IntKind.u64.wrap (x.toNat : Int) = x.toNat := wrap_u64 (by omega) (by simp at hc64; omega)
      have w3 := or_byte (valB (ms.take i)) x (by omega)
      simp [hcb, cb, w1, w4, w2, w3, -Int.natCast_add]
      exact round (i + 1) [0] (by omega) (by omega) (by simp [hts, val_snoc]) (by simp) (by simp) (by decide) (by simp)
    · have him : i = many := by omega
      subst him
      have ht' : ms.take i = ms := List.take_of_length_le (by omega)
      simp [ht']
      exact fin [] (by decide) rfl rfl rfl ⟨rfl, rfl⟩
  · have h2' : many = 0 := by omega
    subst h2'
    have hS : lowS b 0 mask = (valB ((b.take 0).map (· ^^^ mask)), 0) := by
      rw [lowS, if_neg (by omega), if_neg (by simp)]
    simp [hb]
    refine eloop (α := Unit) (fun _ => True) (fun _ => 0)
      (fun _ => [.any, .any, .any, .any, .any, .any, .any, .any, .any, I .u64 0, .any, .any, .any, .any, .any, .any, .any, .any, .any, .any, .any, .any, .any, .any, .any, .any, .any, .any, .any, .any, .any, .any, .any, I .i64 0, I .i64 0, .any, .any, .any, .any, .any, .any, .any, .any, .any, .any, .any, .any]) (fun _ => [some (RdO l p e)]) () [0]
      trivial (by simp [I]) (by simp [RdO]) (by simp) (by decide) (by simp) ?_
    intro _ _
    simp [I, RdO]
    exact fin [] (by decide) rfl rfl rfl ⟨rfl, by rw [hS]; rfl⟩

/-- The int that bytes begin with: the error, the int, how many bytes it takes. -/
def intS (b : List UInt8) : Nat × Int × Nat :=
  match b with
  | [] => (12, 0, 0)
  | c :: r =>
    let many := if 128 ≤ c.toNat then c.toNat - 128 else 127 - c.toNat
    if 8 < many then (3, 0, 0) else
    let q := lowS r many (if 128 ≤ c.toNat then 0 else 255)
    if q.2 ≠ 0 then (q.2, 0, 0) else if 9223372036854775807 < q.1 then (4, 0, 0) else (0, if 128 ≤ c.toNat then (q.1 : Int) else -(q.1 : Int) - 1, 1 + many)

end Go.Proofs.YtpohjnhlhfbnaaaGreatDoor

namespace Go.Proofs.YtpohjnhlhfbnaaaGreatDoor
open Go Go.EW
set_option linter.unusedSimpArgs false

theorem bsv_cons (c : UInt8) (r : List UInt8) : bsv (c :: r) = cb c :: bsv r := rfl
/-- A reader of a line that is handed over. -/
theorem Read_own (l : List UInt8) : ECalls Tryz.prog 20 [R 0 l] [RO l] fun y H' => H' = [none, some (RdO l 0 0)] ∧ y = Ptr 1 := by
  refine ecalls k_Read ?_
  simp [c_Read, R, RO, litc, -errV_0]
  refine finW _ (weak_still (p := 49) (k := 0) (o := 0) (ty := 5) (es := 1) (xs := bsv l) rfl (by simp) rfl) ?_
  exact fin [49] (by decide) rfl rfl rfl ⟨rfl, rfl⟩

end Go.Proofs.YtpohjnhlhfbnaaaGreatDoor

namespace Go.Proofs.YtpohjnhlhfbnaaaGreatDoor
open Go Go.EW
set_option linter.unusedSimpArgs false
set_option linter.unusedVariables false

@[simp] def l_number_1 (_ : Unit) : List EOp := [⟨0, (some 4), none, (.q (.mov (.k (.int .u64 0)))), []⟩, ⟨1, (some 5), none, (.q (.mov (.k (.int .i64 0)))), []⟩, ⟨2, (some 6), none, (.q (.mov (.k (.bool false)))), []⟩]
@[simp] def b_number_2 (_ : Unit) : EB := reg0 (hid l_number_1) 3
@[simp] def l_number_3 (_ : Unit) : List EOp := [⟨0, (some 10), none, (.q (.mov (.t 0))), []⟩, ⟨1, (some 11), none, (.call 49 [(.t 10)]), []⟩, ⟨2, (some 7), none, (.q (.mov (.t 11))), []⟩]
@[simp] def b_number_4 (_ : Unit) : EB := reg0 (hid l_number_3) 3
@[simp] def l_number_5 (_ : Unit) : List EOp := [⟨0, (some 13), none, (.q (.mov (.t 7))), []⟩, ⟨1, (some 14), none, (.q (.len (.t 13))), []⟩, ⟨2, (some 15), none, (.q (.bin .eql (.t 14) (.k (.int .i64 0)))), []⟩, ⟨3, (some 12), none, (.q (.mov (.t 15))), []⟩]
@[simp] def b_number_6 (_ : Unit) : EB := reg0 (hid l_number_5) 4
@[simp] def l_number_7 (_ : Unit) : List EOp := [⟨0, (some 16), none, (.q (.mov (.t 0))), []⟩, ⟨1, (some 17), none, (.q (.mki 68 (.k (.int .i64 12)))), []⟩, ⟨2, (some 18), none, (.call 50 [(.t 16), (.t 17)]), []⟩]
@[simp] def b_number_8 (_ : Unit) : EB := reg0 (hid l_number_7) 3
@[simp] def l_number_9 (_ : Unit) : List EOp := [⟨0, (some 4), none, (.q (.mov (.k (.int .u64 0)))), []⟩, ⟨1, (some 5), none, (.q (.mov (.k (.int .i64 0)))), []⟩, ⟨2, (some 6), none, (.q (.mov (.k (.bool false)))), []⟩]
@[simp] def b_number_10 (_ : Unit) : EB := reg0 (hid l_number_9) 3
@[simp] def b_number_11 (_ : Unit) : EB := .seq (hid b_number_10) .ret
@[simp] def b_number_12 (_ : Unit) : EB := .seq (hid b_number_8) (hid b_number_11)
@[simp] def l_number_13 (_ : Unit) : List EOp := [⟨0, (some 20), none, (.q (.mov (.t 7))), []⟩, ⟨1, (some 21), none, (.q (.isl 1 (.t 20) (.k (.int .i64 0)))), []⟩, ⟨2, (some 22), none, (.q (.ldc (.t 21))), []⟩, ⟨3, (some 23), none, (.q (.bin .gtr (.t 22) (.k (.int .u8 8)))), []⟩, ⟨4, (some 19), none, (.q (.mov (.t 23))), []⟩]
@[simp] def b_number_14 (_ : Unit) : EB := reg0 (hid l_number_13) 5
@[simp] def l_number_15 (_ : Unit) : List EOp := [⟨0, (some 24), none, (.q (.mov (.t 0))), []⟩, ⟨1, (some 25), none, (.q (.mki 68 (.k (.int .i64 3)))), []⟩, ⟨2, (some 26), none, (.call 50 [(.t 24), (.t 25)]), []⟩]
@[simp] def b_number_16 (_ : Unit) : EB := reg0 (hid l_number_15) 3
@[simp] def l_number_17 (_ : Unit) : List EOp := [⟨0, (some 4), none, (.q (.mov (.k (.int .u64 0)))), []⟩, ⟨1, (some 5), none, (.q (.mov (.k (.int .i64 0)))), []⟩, ⟨2, (some 6), none, (.q (.mov (.k (.bool false)))), []⟩]
@[simp] def b_number_18 (_ : Unit) : EB := reg0 (hid l_number_17) 3
@[simp] def b_number_19 (_ : Unit) : EB := .seq (hid b_number_18) .ret
@[simp] def b_number_20 (_ : Unit) : EB := .seq (hid b_number_16) (hid b_number_19)
@[simp] def b_number_21 (_ : Unit) : EB := .cond (.t 19) (hid b_number_20) .skip
@[simp] def b_number_22 (_ : Unit) : EB := .seq (hid b_number_14) (hid b_number_21)
@[simp] def b_number_23 (_ : Unit) : EB := .cond (.t 12) (hid b_number_12) (hid b_number_22)
@[simp] def b_number_24 (_ : Unit) : EB := .seq (hid b_number_6) (hid b_number_23)
@[simp] def b_number_25 (_ : Unit) : EB := .block 0 (hid b_number_24)
@[simp] def l_number_27 (_ : Unit) : List EOp := [⟨6, (some 27), none, (.q (.mov (.t 33))), []⟩, ⟨7, (some 34), none, (.q (.ext 0 (.t 27))), []⟩, ⟨8, (some 35), none, (.q (.ext 1 (.t 27))), []⟩, ⟨9, (some 8), none, (.q (.mov (.t 34))), []⟩, ⟨10, (some 9), none, (.q (.mov (.t 35))), []⟩]
@[simp] def l_number_26 (_ : Unit) : List EOp := ⟨0, (some 28), none, (.q (.mov (.t 0))), []⟩ :: ⟨1, (some 29), none, (.q (.mov (.t 7))), []⟩ :: ⟨2, (some 30), none, (.q (.isl 1 (.t 29) (.k (.int .i64 0)))), []⟩ :: ⟨3, (some 31), none, (.q (.ldc (.t 30))), []⟩ :: ⟨4, (some 32), none, (.q (.cnv .i64 (.t 31))), []⟩ :: ⟨5, (some 33), none, (.call 73 [(.t 28), (.t 32), (.k (.int .u8 0))]), []⟩ :: hid l_number_27
@[simp] def b_number_28 (_ : Unit) : EB := reg0 (hid l_number_26) 11
@[simp] def l_number_30 (_ : Unit) : List EOp := [⟨6, (some 42), none, (.q (.pick (.t 38) (.t 41) (.k (.bool false)))), []⟩]
@[simp] def l_number_29 (_ : Unit) : List EOp := ⟨0, (some 36), none, (.q (.mov (.t 9))), []⟩ :: ⟨1, (some 37), none, (.q (.eqi false (.t 36))), []⟩ :: ⟨2, (some 38), none, (.q (.mov (.t 37))), []⟩ :: ⟨3, (some 39), (some (38, true)), (.q (.mov (.t 8))), []⟩ :: ⟨4, (some 40), (some (38, true)), (.q (.mov (.t 1))), []⟩ :: ⟨5, (some 41), (some (38, true)), (.q (.bin .gtr (.t 39) (.t 40))), []⟩ :: hid l_number_30
@[simp] def b_number_31 (_ : Unit) : EB := reg0 (hid l_number_29) 7
@[simp] def l_number_32 (_ : Unit) : List EOp := [⟨0, (some 43), none, (.q (.mki 68 (.k (.int .i64 4)))), []⟩, ⟨1, (some 9), none, (.q (.mov (.t 43))), []⟩]
@[simp] def b_number_33 (_ : Unit) : EB := reg0 (hid l_number_32) 2
@[simp] def b_number_34 (_ : Unit) : EB := .cond (.t 42) (hid b_number_33) .skip
@[simp] def b_number_35 (_ : Unit) : EB := .seq (hid b_number_31) (hid b_number_34)
@[simp] def l_number_36 (_ : Unit) : List EOp := [⟨0, (some 44), none, (.q (.mov (.t 9))), []⟩, ⟨1, (some 45), none, (.q (.eqi true (.t 44))), []⟩]
@[simp] def b_number_37 (_ : Unit) : EB := reg0 (hid l_number_36) 2
@[simp] def l_number_38 (_ : Unit) : List EOp := [⟨0, (some 46), none, (.q (.mov (.t 0))), []⟩, ⟨1, (some 47), none, (.q (.mov (.t 9))), []⟩, ⟨2, (some 48), none, (.call 50 [(.t 46), (.t 47)]), []⟩]
@[simp] def b_number_39 (_ : Unit) : EB := reg0 (hid l_number_38) 3
@[simp] def l_number_40 (_ : Unit) : List EOp := [⟨0, (some 4), none, (.q (.mov (.k (.int .u64 0)))), []⟩, ⟨1, (some 5), none, (.q (.mov (.k (.int .i64 0)))), []⟩, ⟨2, (some 6), none, (.q (.mov (.k (.bool false)))), []⟩]
@[simp] def b_number_41 (_ : Unit) : EB := reg0 (hid l_number_40) 3
@[simp] def b_number_42 (_ : Unit) : EB := .seq (hid b_number_41) .ret
@[simp] def b_number_43 (_ : Unit) : EB := .seq (hid b_number_39) (hid b_number_42)
@[simp] def b_number_44 (_ : Unit) : EB := .cond (.t 45) (hid b_number_43) .skip
@[simp] def b_number_45 (_ : Unit) : EB := .seq (hid b_number_37) (hid b_number_44)
@[simp] def l_number_47 (_ : Unit) : List EOp := [⟨6, (some 4), none, (.q (.mov (.t 49))), []⟩, ⟨7, (some 5), none, (.q (.mov (.t 54))), []⟩, ⟨8, (some 6), none, (.q (.mov (.k (.bool true)))), []⟩]
@[simp] def l_number_46 (_ : Unit) : List EOp := ⟨0, (some 49), none, (.q (.mov (.t 8))), []⟩ :: ⟨1, (some 50), none, (.q (.mov (.t 7))), []⟩ :: ⟨2, (some 51), none, (.q (.isl 1 (.t 50) (.k (.int .i64 0)))), []⟩ :: ⟨3, (some 52), none, (.q (.ldc (.t 51))), []⟩ :: ⟨4, (some 53), none, (.q (.cnv .i64 (.t 52))), []⟩ :: ⟨5, (some 54), none, (.q (.bin .add (.k (.int .i64 1)) (.t 53))), []⟩ :: hid l_number_47
@[simp] def b_number_48 (_ : Unit) : EB := reg0 (hid l_number_46) 9
@[simp] def b_number_49 (_ : Unit) : EB := .seq (hid b_number_48) .ret
@[simp] def b_number_50 (_ : Unit) : EB := .seq (hid b_number_45) (hid b_number_49)
@[simp] def b_number_51 (_ : Unit) : EB := .seq (hid b_number_35) (hid b_number_50)
@[simp] def b_number_52 (_ : Unit) : EB := .seq (hid b_number_28) (hid b_number_51)
@[simp] def b_number_53 (_ : Unit) : EB := .seq (hid b_number_25) (hid b_number_52)
@[simp] def b_number_54 (_ : Unit) : EB := .seq (hid b_number_4) (hid b_number_53)
@[simp] def b_number_55 (_ : Unit) : EB := .seq (hid b_number_2) (hid b_number_54)
def c_number : EB × List QOp × Nat := ((hid b_number_55), [(.mov (.t 4)), (.mov (.t 5)), (.mov (.t 6))], 55)
theorem k_number : cfun Tryz.prog 48 = some c_number := by kernel_rfl

@[simp] def l_RdUint_1 (_ : Unit) : List EOp := [⟨0, (some 4), none, (.q (.mov (.k (.int .u64 0)))), []⟩]
@[simp] def b_RdUint_2 (_ : Unit) : EB := reg0 (hid l_RdUint_1) 1
@[simp] def l_RdUint_3 (_ : Unit) : List EOp := [⟨0, (some 8), none, (.q (.mov (.t 0))), []⟩, ⟨1, (some 9), none, (.call 47 [(.t 8)]), []⟩]
@[simp] def b_RdUint_4 (_ : Unit) : EB := reg0 (hid l_RdUint_3) 2
@[simp] def l_RdUint_5 (_ : Unit) : List EOp := [⟨0, (some 4), none, (.q (.mov (.k (.int .u64 0)))), []⟩]
@[simp] def b_RdUint_6 (_ : Unit) : EB := reg0 (hid l_RdUint_5) 1
@[simp] def b_RdUint_7 (_ : Unit) : EB := .seq (hid b_RdUint_6) .ret
@[simp] def b_RdUint_8 (_ : Unit) : EB := .cond (.t 9) (hid b_RdUint_7) .skip
@[simp] def b_RdUint_9 (_ : Unit) : EB := .seq (hid b_RdUint_4) (hid b_RdUint_8)
@[simp] def l_RdUint_11 (_ : Unit) : List EOp := [⟨6, (some 16), none, (.q (.ext 2 (.t 10))), []⟩, ⟨7, (some 5), none, (.q (.mov (.t 14))), []⟩, ⟨8, (some 6), none, (.q (.mov (.t 15))), []⟩, ⟨9, (some 7), none, (.q (.mov (.t 16))), []⟩]
@[simp] def l_RdUint_10 (_ : Unit) : List EOp := ⟨0, (some 11), none, (.q (.mov (.t 0))), []⟩ :: ⟨1, (some 12), none, (.q (.mov (.t 1))), []⟩ :: ⟨2, (some 13), none, (.call 48 [(.t 11), (.t 12)]), []⟩ :: ⟨3, (some 10), none, (.q (.mov (.t 13))), []⟩ :: ⟨4, (some 14), none, (.q (.ext 0 (.t 10))), []⟩ :: ⟨5, (some 15), none, (.q (.ext 1 (.t 10))), []⟩ :: hid l_RdUint_11
@[simp] def b_RdUint_12 (_ : Unit) : EB := reg0 (hid l_RdUint_10) 10
@[simp] def l_RdUint_13 (_ : Unit) : List EOp := [⟨0, (some 17), none, (.q (.mov (.t 7))), []⟩]
@[simp] def b_RdUint_14 (_ : Unit) : EB := reg0 (hid l_RdUint_13) 1
@[simp] def l_RdUint_16 (_ : Unit) : List EOp := [⟨6, (some 24), none, (.q (.nilc (.t 18))), []⟩, ⟨7, (some 25), none, (.q (.fad 1 (.t 24))), []⟩, ⟨8, none, none, (.sto 1 (.t 25) (.t 23)), []⟩]
@[simp] def l_RdUint_15 (_ : Unit) : List EOp := ⟨0, (some 18), none, (.q (.mov (.t 0))), []⟩ :: ⟨1, (some 19), none, (.q (.nilc (.t 18))), []⟩ :: ⟨2, (some 20), none, (.q (.fad 1 (.t 19))), []⟩ :: ⟨3, (some 21), none, (.q (.ldc (.t 20))), []⟩ :: ⟨4, (some 22), none, (.q (.mov (.t 6))), []⟩ :: ⟨5, (some 23), none, (.q (.bin .add (.t 21) (.t 22))), []⟩ :: hid l_RdUint_16
@[simp] def b_RdUint_17 (_ : Unit) : EB := reg0 (hid l_RdUint_15) 9
@[simp] def b_RdUint_18 (_ : Unit) : EB := .cond (.t 17) (hid b_RdUint_17) .skip
@[simp] def b_RdUint_19 (_ : Unit) : EB := .seq (hid b_RdUint_14) (hid b_RdUint_18)
@[simp] def l_RdUint_20 (_ : Unit) : List EOp := [⟨0, (some 26), none, (.q (.mov (.t 5))), []⟩, ⟨1, (some 4), none, (.q (.mov (.t 26))), []⟩]
@[simp] def b_RdUint_21 (_ : Unit) : EB := reg0 (hid l_RdUint_20) 2
@[simp] def b_RdUint_22 (_ : Unit) : EB := .seq (hid b_RdUint_21) .ret
@[simp] def b_RdUint_23 (_ : Unit) : EB := .seq (hid b_RdUint_19) (hid b_RdUint_22)
@[simp] def b_RdUint_24 (_ : Unit) : EB := .seq (hid b_RdUint_12) (hid b_RdUint_23)
@[simp] def b_RdUint_25 (_ : Unit) : EB := .seq (hid b_RdUint_9) (hid b_RdUint_24)
@[simp] def b_RdUint_26 (_ : Unit) : EB := .seq (hid b_RdUint_2) (hid b_RdUint_25)
def c_RdUint : EB × List QOp × Nat := ((hid b_RdUint_26), [(.mov (.t 4))], 27)
theorem k_RdUint : cfun Tryz.prog 22 = some c_RdUint := by kernel_rfl

@[simp] def l_RdHash_1 (_ : Unit) : List EOp := [⟨0, (some 2), none, (.q (.alloc 48 zU8)), []⟩]
@[simp] def b_RdHash_2 (_ : Unit) : EB := reg0 (hid l_RdHash_1) 1
@[simp] def l_RdHash_3 (_ : Unit) : List EOp := [⟨0, (some 3), none, (.q (.alloc 48 zU8)), []⟩]
@[simp] def b_RdHash_4 (_ : Unit) : EB := reg0 (hid l_RdHash_3) 1
@[simp] def l_RdHash_5 (_ : Unit) : List EOp := [⟨0, (some 16), none, (.q (.mov (.t 0))), []⟩, ⟨1, (some 17), none, (.call 47 [(.t 16)]), []⟩, ⟨2, (some 15), none, (.q (.mov (.t 17))), []⟩]
@[simp] def b_RdHash_6 (_ : Unit) : EB := reg0 (hid l_RdHash_5) 3
@[simp] def l_RdHash_7 (_ : Unit) : List EOp := [⟨0, (some 19), none, (.q (.mov (.t 0))), []⟩, ⟨1, (some 20), none, (.call 49 [(.t 19)]), []⟩, ⟨2, (some 21), none, (.q (.len (.t 20))), []⟩, ⟨3, (some 22), none, (.q (.bin .lss (.t 21) (.k (.int .i64 32)))), []⟩, ⟨4, (some 18), none, (.q (.mov (.t 22))), []⟩]
@[simp] def b_RdHash_8 (_ : Unit) : EB := reg0 (hid l_RdHash_7) 5
@[simp] def l_RdHash_9 (_ : Unit) : List EOp := [⟨0, (some 23), none, (.q (.mov (.t 0))), []⟩, ⟨1, (some 24), none, (.q (.mki 68 (.k (.int .i64 12)))), []⟩, ⟨2, (some 25), none, (.call 50 [(.t 23), (.t 24)]), []⟩]
@[simp] def b_RdHash_10 (_ : Unit) : EB := reg0 (hid l_RdHash_9) 3
@[simp] def l_RdHash_12 (_ : Unit) : List EOp := [⟨6, (some 10), none, (.call 49 [(.t 9)]), [0, 1, 2, 3, 4]⟩, ⟨7, (some 11), none, (.cpy 1 (.t 8) (.t 10)), [0, 1, 2, 3]⟩, ⟨8, (some 12), none, (.q (.bin .add (.t 7) (.t 11))), []⟩, ⟨9, (some 13), none, (.q (.nilc (.t 4))), []⟩, ⟨10, (some 14), none, (.q (.fad 1 (.t 13))), []⟩, ⟨11, none, none, (.sto 1 (.t 14) (.t 12)), []⟩]
@[simp] def l_RdHash_11 (_ : Unit) : List EOp := ⟨0, (some 4), none, (.q (.mov (.t 0))), []⟩ :: ⟨1, (some 5), none, (.q (.nilc (.t 4))), []⟩ :: ⟨2, (some 6), none, (.q (.fad 1 (.t 5))), []⟩ :: ⟨3, (some 7), none, (.q (.ldc (.t 6))), []⟩ :: ⟨4, (some 8), none, (.q (.sar 32 (.t 3) none none)), []⟩ :: ⟨5, (some 9), none, (.q (.mov (.t 0))), []⟩ :: hid l_RdHash_12
@[simp] def b_RdHash_13 (_ : Unit) : EB := reg1 (hid l_RdHash_11) 12
@[simp] def b_RdHash_14 (_ : Unit) : EB := .cond (.t 18) (hid b_RdHash_10) (hid b_RdHash_13)
@[simp] def b_RdHash_15 (_ : Unit) : EB := .seq (hid b_RdHash_8) (hid b_RdHash_14)
@[simp] def b_RdHash_16 (_ : Unit) : EB := .cond (.t 15) .skip (hid b_RdHash_15)
@[simp] def b_RdHash_17 (_ : Unit) : EB := .seq (hid b_RdHash_6) (hid b_RdHash_16)
@[simp] def b_RdHash_18 (_ : Unit) : EB := .block 0 (hid b_RdHash_17)
@[simp] def l_RdHash_19 (_ : Unit) : List EOp := [⟨0, (some 26), none, (.q (.lda 32 (.t 3))), []⟩, ⟨1, none, none, (.sto 32 (.t 2) (.t 26)), []⟩]
@[simp] def b_RdHash_20 (_ : Unit) : EB := reg0 (hid l_RdHash_19) 2
@[simp] def b_RdHash_21 (_ : Unit) : EB := .seq (hid b_RdHash_20) .ret
@[simp] def b_RdHash_22 (_ : Unit) : EB := .seq (hid b_RdHash_18) (hid b_RdHash_21)
@[simp] def b_RdHash_23 (_ : Unit) : EB := .seq (hid b_RdHash_4) (hid b_RdHash_22)
@[simp] def b_RdHash_24 (_ : Unit) : EB := .seq (hid b_RdHash_2) (hid b_RdHash_23)
def c_RdHash : EB × List QOp × Nat := ((hid b_RdHash_24), [(.lda 32 (.t 2))], 27)
theorem k_RdHash : cfun Tryz.prog 24 = some c_RdHash := by kernel_rfl

@[simp] def l_RdDone_1 (_ : Unit) : List EOp := [⟨0, (some 2), none, (.q (.mov (.k .nilIface))), []⟩]
@[simp] def b_RdDone_2 (_ : Unit) : EB := reg0 (hid l_RdDone_1) 1
@[simp] def l_RdDone_3 (_ : Unit) : List EOp := [⟨0, (some 4), none, (.q (.mov (.t 0))), []⟩, ⟨1, (some 5), none, (.q (.eqp false (.t 4))), []⟩, ⟨2, (some 3), none, (.q (.mov (.t 5))), []⟩]
@[simp] def b_RdDone_4 (_ : Unit) : EB := reg0 (hid l_RdDone_3) 3
@[simp] def l_RdDone_5 (_ : Unit) : List EOp := [⟨0, (some 6), none, (.q (.mki 68 (.k (.int .i64 1)))), []⟩, ⟨1, (some 2), none, (.q (.mov (.t 6))), []⟩]
@[simp] def b_RdDone_6 (_ : Unit) : EB := reg0 (hid l_RdDone_5) 2
@[simp] def b_RdDone_7 (_ : Unit) : EB := .seq (hid b_RdDone_6) .ret
@[simp] def l_RdDone_8 (_ : Unit) : List EOp := [⟨0, (some 8), none, (.q (.mov (.t 0))), []⟩, ⟨1, (some 9), none, (.q (.nilc (.t 8))), []⟩, ⟨2, (some 10), none, (.q (.fad 2 (.t 9))), []⟩, ⟨3, (some 11), none, (.q (.ldc (.t 10))), []⟩, ⟨4, (some 12), none, (.q (.eqi true (.t 11))), []⟩, ⟨5, (some 7), none, (.q (.mov (.t 12))), []⟩]
@[simp] def b_RdDone_9 (_ : Unit) : EB := reg0 (hid l_RdDone_8) 6
@[simp] def l_RdDone_10 (_ : Unit) : List EOp := [⟨0, (some 13), none, (.q (.mov (.t 0))), []⟩, ⟨1, (some 14), none, (.q (.nilc (.t 13))), []⟩, ⟨2, (some 15), none, (.q (.fad 2 (.t 14))), []⟩, ⟨3, (some 16), none, (.q (.ldc (.t 15))), []⟩, ⟨4, (some 2), none, (.q (.mov (.t 16))), []⟩]
@[simp] def b_RdDone_11 (_ : Unit) : EB := reg0 (hid l_RdDone_10) 5
@[simp] def b_RdDone_12 (_ : Unit) : EB := .seq (hid b_RdDone_11) .ret
@[simp] def l_RdDone_14 (_ : Unit) : List EOp := [⟨6, (some 24), none, (.q (.fad 0 (.t 23))), []⟩, ⟨7, (some 25), none, (.q (.ldc (.t 24))), []⟩, ⟨8, (some 26), none, (.q (.len (.t 25))), []⟩, ⟨9, (some 27), none, (.q (.bin .lss (.t 21) (.t 26))), []⟩, ⟨10, (some 17), none, (.q (.mov (.t 27))), []⟩]
@[simp] def l_RdDone_13 (_ : Unit) : List EOp := ⟨0, (some 18), none, (.q (.mov (.t 0))), []⟩ :: ⟨1, (some 19), none, (.q (.nilc (.t 18))), []⟩ :: ⟨2, (some 20), none, (.q (.fad 1 (.t 19))), []⟩ :: ⟨3, (some 21), none, (.q (.ldc (.t 20))), []⟩ :: ⟨4, (some 22), none, (.q (.mov (.t 0))), []⟩ :: ⟨5, (some 23), none, (.q (.nilc (.t 22))), []⟩ :: hid l_RdDone_14
@[simp] def b_RdDone_15 (_ : Unit) : EB := reg0 (hid l_RdDone_13) 11
@[simp] def l_RdDone_16 (_ : Unit) : List EOp := [⟨0, (some 28), none, (.q (.mki 68 (.k (.int .i64 3)))), []⟩, ⟨1, (some 2), none, (.q (.mov (.t 28))), []⟩]
@[simp] def b_RdDone_17 (_ : Unit) : EB := reg0 (hid l_RdDone_16) 2
@[simp] def b_RdDone_18 (_ : Unit) : EB := .seq (hid b_RdDone_17) .ret
@[simp] def b_RdDone_19 (_ : Unit) : EB := .cond (.t 17) (hid b_RdDone_18) .skip
@[simp] def b_RdDone_20 (_ : Unit) : EB := .seq (hid b_RdDone_15) (hid b_RdDone_19)
@[simp] def b_RdDone_21 (_ : Unit) : EB := .cond (.t 7) (hid b_RdDone_12) (hid b_RdDone_20)
@[simp] def b_RdDone_22 (_ : Unit) : EB := .seq (hid b_RdDone_9) (hid b_RdDone_21)
@[simp] def b_RdDone_23 (_ : Unit) : EB := .cond (.t 3) (hid b_RdDone_7) (hid b_RdDone_22)
@[simp] def b_RdDone_24 (_ : Unit) : EB := .seq (hid b_RdDone_4) (hid b_RdDone_23)
@[simp] def b_RdDone_25 (_ : Unit) : EB := .block 0 (hid b_RdDone_24)
@[simp] def l_RdDone_26 (_ : Unit) : List EOp := [⟨0, (some 2), none, (.q (.mov (.k .nilIface))), []⟩]
@[simp] def b_RdDone_27 (_ : Unit) : EB := reg0 (hid l_RdDone_26) 1
@[simp] def b_RdDone_28 (_ : Unit) : EB := .seq (hid b_RdDone_27) .ret
@[simp] def b_RdDone_29 (_ : Unit) : EB := .seq (hid b_RdDone_25) (hid b_RdDone_28)
@[simp] def b_RdDone_30 (_ : Unit) : EB := .seq (hid b_RdDone_2) (hid b_RdDone_29)
def c_RdDone : EB × List QOp × Nat := ((hid b_RdDone_30), [(.mov (.t 2))], 29)
theorem k_RdDone : cfun Tryz.prog 25 = some c_RdDone := by kernel_rfl


/-- The number that bytes begin with, up to a bound: the error, the number, how many bytes it takes. -/
def numS (b : List UInt8) (most : Nat) : Nat × Nat × Nat :=
  match b with
  | [] => (12, 0, 0)
  | c :: r => if 8 < c.toNat then (3, 0, 0) else
    let q := lowS r c.toNat 0
    if q.2 ≠ 0 then (q.2, 0, 0) else if most < q.1 then (4, 0, 0) else (0, q.1, 1 + c.toNat)

theorem low_lt (r : List UInt8) (many : Nat) (mask : UInt8) (hm : many ≤ 8) : (lowS r many mask).1 < 18446744073709551616 := by
  unfold lowS
  split
  · simp
  split
  · simp
  have h1 := val_lt ((r.take many).map (· ^^^ mask))
  have h2 : ((r.take many).map (· ^^^ mask)).length ≤ 8 := by simp <;> omega
  have h3 := Nat.pow_le_pow_right (show 0 < 256 by omega) h2
  have h4 : (256 : Nat) ^ 8 = 18446744073709551616 := by decide
  show valB _ < _
  omega
theorem low_len (r : List UInt8) (many : Nat) (mask : UInt8) (h : (lowS r many mask).2 = 0) : many ≤ r.length := by
  unfold lowS at h
  split at h
  · simp at h
  · omega
theorem numS_ok (b : List UInt8) (most : Nat) : (numS b most).2.1 < 18446744073709551616 ∧ (numS b most).2.1 ≤ most ∧ (numS b most).2.2 ≤ b.length ∧ ((numS b most).1 ≠ 0 → (numS b most).2.1 = 0 ∧ (numS b most).2.2 = 0) := by
  unfold numS
  split
  · simp
  rename_i c r
  split
  · simp
  rename_i h8
  have h1 := low_lt r c.toNat 0 (by omega)
  have h2 := low_len r c.toNat 0
  obtain ⟨q, hq⟩ : ∃ q, lowS r c.toNat 0 = q := ⟨_, rfl⟩
  rw [hq] at h1 h2
  simp only [hq]
  split
  · simp
  rename_i hq2
  have := h2 (by omega)
  split
  · simp
  · simp; omega

set_option maxHeartbeats 1000000 in
theorem number_ok (l : List UInt8) (p most : Nat) (hp : p ≤ l.length) (hl : l.length ≤ 1000000000) (hm : most < 18446744073709551616) : ECalls Tryz.prog 48 [Ptr 0, I .u64 most] [RdO l p 0] fun y H' => H' = [some (RdO l p (numS (l.drop p) most).1)] ∧ y = .tup [.c (.fz (.lit (.int .u64 (numS (l.drop p) most).2.1))), .c (.fz (.lit (.int .i64 (numS (l.drop p) most).2.2))), .c (.fz (.lit (.bool (decide ((numS (l.drop p) most).1 = 0)))))] := by
  refine ecalls k_number ?_
  simp [c_number, Ptr, I]
  refine callH [0] (rest_ok l p 0 hp) (by simp [Ptr, NP, I, R, RO, WO, RdO, Bs, EV.lit]) (by simp [Ptr, NP, I, R, RO, WO, RdO, Bs, EV.lit]) (by simp) (by simp [Ptr, NP, I, R, RO, WO, RdO, Bs, EV.lit]) (by simp [Wok]) ?_
  rintro y H' ⟨rfl, rfl⟩
  refine ⟨.inl (by simp [Ptr, NP, I, R, RO, WO, RdO, Bs, EV.lit]), le_ok rfl, ?_⟩
  simp [Ptr, NP, I, R, RO, WO, RdO, Bs, EV.lit]
  obtain ⟨b, hb⟩ : ∃ b, l.drop p = b := ⟨_, rfl⟩
  have hbl : b.length = l.length - p := by rw [← hb, List.length_drop]
  simp only [hb, List.length_drop, ← hbl]
  rcases b with _ | ⟨c, r⟩
  · simp
    refine callH [0] (fail_ok l p 0 12) (by simp [Ptr, NP, I, R, RO, WO, RdO, Bs, EV.lit]) (by simp [Ptr, NP, I, R, RO, WO, RdO, Bs, EV.lit]) (by simp) (by simp [Ptr, NP, I, R, RO, WO, RdO, Bs, EV.lit]) (by simp [Wok]) ?_
    rintro y H' ⟨rfl, rfl⟩
    refine ⟨.inl (by simp [Ptr, NP, I, R, RO, WO, RdO, Bs, EV.lit]), le_ok rfl, ?_⟩
    simp [Ptr, NP, I, R, RO, WO, RdO, Bs, EV.lit]
    exact fin [] (by decide) rfl rfl rfl ⟨rfl, rfl⟩
  have hr : l.drop (p + 1) = r := by
    have := congrArg List.tail hb
    rwa [List.tail_drop] at this
  have hcl := c.toNat_lt
  simp at hcl hbl
  simp [bsv_cons, cb]
  refine alt (fun h8 => ?_) (fun h8 => ?_)
  · have hi : numS (c :: r) most = (3, 0, 0) := by simp only [numS]; rw [if_pos (by omega)]
    rw [hi]
    simp
    refine callH [0] (fail_ok l p 0 3) (by simp [Ptr, NP, I, R, RO, WO, RdO, Bs, EV.lit]) (by simp [Ptr, NP, I, R, RO, WO, RdO, Bs, EV.lit]) (by simp) (by simp [Ptr, NP, I, R, RO, WO, RdO, Bs, EV.lit]) (by simp [Wok]) ?_
    rintro y H' ⟨rfl, rfl⟩
    refine ⟨.inl (by simp [Ptr, NP, I, R, RO, WO, RdO, Bs, EV.lit]), le_ok rfl, ?_⟩
    simp [Ptr, NP, I, R, RO, WO, RdO, Bs, EV.lit]
    exact fin [] (by decide) rfl rfl rfl ⟨rfl, rfl⟩
  have h8' : ¬ 8 < c.toNat := by omega
  have w0 : IntKind.i64.wrap (c.toNat : Int) = c.toNat := wrap_i64 (by omega) (by omega)
  simp [w0]
  refine callH [0] (low_ok l p 0 c.toNat 0 (by omega) (by omega)) (by simp [Ptr, NP, I, R, RO, WO, RdO, Bs, EV.lit]) (by simp [Ptr, NP, I, R, RO, WO, RdO, Bs, EV.lit]) (by simp) (by simp [Ptr, NP, I, R, RO, WO, RdO, Bs, EV.lit]) (by simp [Wok]) ?_
  rintro y H' ⟨rfl, rfl⟩
  refine ⟨.inl (by simp [Ptr, NP, I, R, RO, WO, RdO, Bs, EV.lit]), le_ok rfl, ?_⟩
  rw [hr]
  have h1 := low_lt r c.toNat 0 (by omega)
  obtain ⟨q, hq⟩ : ∃ q, lowS r c.toNat 0 = q := ⟨_, rfl⟩
  rw [hq] at h1 ⊢
  have hi0 : numS (c :: r) most = if q.2 ≠ 0 then (q.2, 0, 0) else if most < q.1 then (4, 0, 0) else (0, q.1, 1 + c.toNat) := by
    simp only [numS, if_neg h8', hq]
  by_cases hq2 : q.2 = 0
  · by_cases hq1 : most < q.1
    · have hi : numS (c :: r) most = (4, 0, 0) := by rw [hi0, if_neg (by omega), if_pos hq1]
      rw [hi]
      simp [RdO, hq2, show ((most : Int) < (q.1 : Int)) from by omega]
      refine callH [0] (fail_ok l p 0 4) (by simp [Ptr, NP, I, R, RO, WO, RdO, Bs, EV.lit]) (by simp [Ptr, NP, I, R, RO, WO, RdO, Bs, EV.lit]) (by simp) (by simp [Ptr, NP, I, R, RO, WO, RdO, Bs, EV.lit]) (by simp [Wok]) ?_
      rintro y H' ⟨rfl, rfl⟩
      refine ⟨.inl (by simp [Ptr, NP, I, R, RO, WO, RdO, Bs, EV.lit]), le_ok rfl, ?_⟩
      simp [Ptr, NP, I, R, RO, WO, RdO, Bs, EV.lit]
      exact fin [] (by decide) rfl rfl rfl ⟨rfl, rfl⟩
    · have hi : numS (c :: r) most = (0, q.1, 1 + c.toNat) := by rw [hi0, if_neg (by omega), if_neg hq1]
      rw [hi]
      have w5 : IntKind.i64.wrap (1 + (c.toNat : Int)) = 1 + (c.toNat : Int) := wrap_i64 (by omega) (by omega)
      simp [RdO, hq2, show ¬ ((most : Int) < (q.1 : Int)) from by omega, w0, w5, bsv_cons, cb]
      exact fin [] (by decide) rfl rfl rfl ⟨rfl, rfl⟩
  · have hi : numS (c :: r) most = (q.2, 0, 0) := by rw [hi0, if_pos hq2]
    rw [hi]
    simp [RdO, hq2]
    refine callH [0] (fail_ok l p 0 q.2) (by simp [Ptr, NP, I, R, RO, WO, RdO, Bs, EV.lit]) (by simp [Ptr, NP, I, R, RO, WO, RdO, Bs, EV.lit]) (by simp) (by simp [Ptr, NP, I, R, RO, WO, RdO, Bs, EV.lit]) (by simp [Wok]) ?_
    rintro y H' ⟨rfl, rfl⟩
    refine ⟨.inl (by simp [Ptr, NP, I, R, RO, WO, RdO, Bs, EV.lit]), le_ok rfl, ?_⟩
    simp [RdO, hq2]
    exact fin [] (by decide) rfl rfl rfl ⟨rfl, rfl⟩

theorem RdUint_ok (l : List UInt8) (p most : Nat) (hp : p ≤ l.length) (hl : l.length ≤ 1000000000) (hm : most < 18446744073709551616) : ECalls Tryz.prog 22 [Ptr 0, I .u64 most] [RdO l p 0] fun y H' => H' = [some (RdO l (p + (numS (l.drop p) most).2.2) (numS (l.drop p) most).1)] ∧ y = I .u64 (numS (l.drop p) most).2.1 := by
  refine ecalls k_RdUint ?_
  simp [c_RdUint, Ptr, I]
  refine callH [0] (off_ok l p 0) (by simp [Ptr, NP, I, R, RO, WO, RdO, Bs, EV.lit]) (by simp [Ptr, NP, I, R, RO, WO, RdO, Bs, EV.lit]) (by simp) (by simp [Ptr, NP, I, R, RO, WO, RdO, Bs, EV.lit]) (by simp [Wok]) ?_
  rintro y H' ⟨rfl, rfl⟩
  refine ⟨.inl (by simp [Ptr, NP, I, R, RO, WO, RdO, Bs, EV.lit]), le_ok rfl, ?_⟩
  simp [Ptr, NP, I, R, RO, WO, RdO, Bs, EV.lit]
  refine callH [0] (number_ok l p most hp hl hm) (by simp [Ptr, NP, I, R, RO, WO, RdO, Bs, EV.lit]) (by simp [Ptr, NP, I, R, RO, WO, RdO, Bs, EV.lit]) (by simp) (by simp [Ptr, NP, I, R, RO, WO, RdO, Bs, EV.lit]) (by simp [Wok]) ?_
  rintro y H' ⟨rfl, rfl⟩
  refine ⟨.inl (by simp [Ptr, NP, I, R, RO, WO, RdO, Bs, EV.lit]), le_ok rfl, ?_⟩
  have hn := numS_ok (l.drop p) most
  obtain ⟨q, hq⟩ : ∃ q, numS (l.drop p) most = q := ⟨_, rfl⟩
  rw [hq] at hn ⊢
  simp at hn
  simp [RdO]
  refine alt (fun h0 => ?_) (fun h0 => ?_)
  · have w6 : IntKind.i64.wrap ((p : Int) + (q.2.2 : Int)) = ((p + q.2.2 : Nat) : Int) := by rw [wrap_i64 (by omega) (by omega)]; omega
    simp [w6, -Int.natCast_add]
    exact fin [] (by decide) rfl rfl rfl ⟨rfl, rfl⟩
  · have := hn.2.2.2 h0
    simp
    exact fin [] (by decide) rfl rfl rfl ⟨by simp [this], rfl⟩

theorem RdUint_off (l : List UInt8) (p e most : Nat) (he : e ≠ 0) : ECalls Tryz.prog 22 [Ptr 0, I .u64 most] [RdO l p e] fun y H' => H' = [some (RdO l p e)] ∧ y = I .u64 0 := by
  refine ecalls k_RdUint ?_
  simp [c_RdUint, Ptr, I]
  refine callH [0] (off_ok l p e) (by simp [Ptr, NP, I, R, RO, WO, RdO, Bs, EV.lit]) (by simp [Ptr, NP, I, R, RO, WO, RdO, Bs, EV.lit]) (by simp) (by simp [Ptr, NP, I, R, RO, WO, RdO, Bs, EV.lit]) (by simp [Wok]) ?_
  rintro y H' ⟨rfl, rfl⟩
  refine ⟨.inl (by simp [Ptr, NP, I, R, RO, WO, RdO, Bs, EV.lit]), le_ok rfl, ?_⟩
  simp [he, RdO, I]
  exact fin [] (by decide) rfl rfl rfl ⟨rfl, rfl⟩

theorem RdUint_nil (most : Nat) : ECalls Tryz.prog 22 [NP, I .u64 most] [] fun y H' => H' = [] ∧ y = I .u64 0 := by
  refine ecalls k_RdUint ?_
  simp [c_RdUint, NP, I]
  refine call0 off_nil (by simp [NP]) ?_
  rintro y H' ⟨rfl, rfl⟩
  simp
  exact fin [] (by decide) rfl rfl rfl ⟨rfl, rfl⟩

theorem RdDone_ok (l : List UInt8) (p e : Nat) (hp : p ≤ l.length) : ECalls Tryz.prog 25 [Ptr 0] [RdO l p e] fun y H' => H' = [some (RdO l p e)] ∧ y = .lit (errV (if e ≠ 0 then e else if p < l.length then 3 else 0)) := by
  refine ecalls k_RdDone ?_
  by_cases he : e = 0
  · subst he
    simp [c_RdDone, Ptr, RdO]
    refine alt (fun h => ?_) (fun h => ?_)
    · simp
      exact fin [] (by decide) rfl rfl rfl ⟨rfl, by simp [h]⟩
    · simp
      exact fin [] (by decide) rfl rfl rfl ⟨rfl, by simp [h]⟩
  · simp [c_RdDone, Ptr, RdO, he]
    exact fin [] (by decide) rfl rfl rfl ⟨rfl, by simp⟩

theorem RdDone_nil : ECalls Tryz.prog 25 [NP] [] fun y H' => H' = [] ∧ y = .lit (errV 1) := by
  refine ecalls k_RdDone ?_
  simp [c_RdDone, NP]
  exact fin [] (by decide) rfl rfl rfl ⟨rfl, rfl⟩

/-- The sum that bytes begin with. -/
def hashS (b : List UInt8) : Nat × List UInt8 × Nat := if b.length < 32 then (12, hz, 0) else (0, b.take 32, 32)
theorem RdHash_ok (l : List UInt8) (p : Nat) (hp : p ≤ l.length) (hl : l.length ≤ 1000000000) : ECalls Tryz.prog 24 [Ptr 0] [RdO l p 0] fun y H' => H' = [some (RdO l (p + (hashS (l.drop p)).2.2) (hashS (l.drop p)).1)] ∧ y = Ag (hashS (l.drop p)).2.1 := by
  refine ecalls k_RdHash ?_
  simp [c_RdHash, Ptr]
  refine callH [0] (off_ok l p 0) (by simp [Ptr, NP, I, R, RO, WO, RdO, Bs, EV.lit]) (by simp [Ptr, NP, I, R, RO, WO, RdO, Bs, EV.lit]) (by simp) (by simp [Ptr, NP, I, R, RO, WO, RdO, Bs, EV.lit]) (by simp [Wok]) ?_
  rintro y H' ⟨rfl, rfl⟩
  refine ⟨.inl (by simp [Ptr, NP, I, R, RO, WO, RdO, Bs, EV.lit]), le_ok rfl, ?_⟩
  simp [Ptr, NP, I, R, RO, WO, RdO, Bs, EV.lit]
  refine callH [0] (rest_ok l p 0 hp) (by simp [Ptr, NP, I, R, RO, WO, RdO, Bs, EV.lit]) (by simp [Ptr, NP, I, R, RO, WO, RdO, Bs, EV.lit]) (by simp) (by simp [Ptr, NP, I, R, RO, WO, RdO, Bs, EV.lit]) (by simp [Wok]) ?_
  rintro y H' ⟨rfl, rfl⟩
  refine ⟨.inl (by simp [Ptr, NP, I, R, RO, WO, RdO, Bs, EV.lit]), le_ok rfl, ?_⟩
  simp [Ptr, NP, I, R, RO, WO, RdO, Bs, EV.lit]
  refine alt (fun h => ?_) (fun h => ?_)
  · have hi : hashS (l.drop p) = (12, hz, 0) := by unfold hashS; rw [if_pos (by rw [List.length_drop]; omega)]
    rw [hi]
    simp
    refine callH [0] (fail_ok l p 0 12) (by simp [Ptr, NP, I, R, RO, WO, RdO, Bs, EV.lit]) (by simp [Ptr, NP, I, R, RO, WO, RdO, Bs, EV.lit]) (by simp) (by simp [Ptr, NP, I, R, RO, WO, RdO, Bs, EV.lit]) (by simp [Wok]) ?_
    rintro y H' ⟨rfl, rfl⟩
    refine ⟨.inl (by simp [Ptr, NP, I, R, RO, WO, RdO, Bs, EV.lit]), le_ok rfl, ?_⟩
    simp [Ptr, NP, I, R, RO, WO, RdO, Bs, EV.lit]
    exact fin [] (by decide) rfl rfl rfl ⟨rfl, rfl⟩
  · have hi : hashS (l.drop p) = (0, (l.drop p).take 32, 32) := by unfold hashS; rw [if_neg (by rw [List.length_drop]; omega)]
    rw [hi]
    simp
    have m1 : min (l.length - p) 32 = 32 := by omega
    have m2 : min 32 (l.length - p) = 32 := by omega
    have w6 : IntKind.i64.wrap ((p : Int) + 32) = (p : Int) + 32 := wrap_i64 (by omega) (by omega)
    refine callS [0] (rest_ok l p 0 hp) (by simp [Ptr, NP, I, R, RO, WO, RdO, Bs, EV.lit]) (by simp [Ptr, NP, I, R, RO, WO, RdO, Bs, EV.lit]) (by simp) (by simp [Ptr, NP, I, R, RO, WO, RdO, Bs, EV.lit]) (by intro i hi y H' h; obtain ⟨rfl, rfl⟩ := h; simp at hi; subst hi; simp [Ptr, NP, I, R, RO, WO, RdO, Bs, EV.lit]) ?_
    rintro y H' ⟨rfl, rfl⟩
    refine ⟨.inl (by simp [Ptr, NP, I, R, RO, WO, RdO, Bs, EV.lit]), le_ok rfl, ?_⟩
    simp [RdO, Bs, m1, m2, w6]
    exact fin [] (by decide) (v := Ag ((l.drop p).take 32)) (by simp [resV, evT, Ag, m1, m2, List.take_take]) (by simp [conR, conT, Ag]) rfl ⟨rfl, rfl⟩

theorem RdHash_off (l : List UInt8) (p e : Nat) (he : e ≠ 0) : ECalls Tryz.prog 24 [Ptr 0] [RdO l p e] fun y H' => H' = [some (RdO l p e)] ∧ y = Ag (hz) := by
  refine ecalls k_RdHash ?_
  simp [c_RdHash, Ptr]
  refine callH [0] (off_ok l p e) (by simp [Ptr, NP, I, R, RO, WO, RdO, Bs, EV.lit]) (by simp [Ptr, NP, I, R, RO, WO, RdO, Bs, EV.lit]) (by simp) (by simp [Ptr, NP, I, R, RO, WO, RdO, Bs, EV.lit]) (by simp [Wok]) ?_
  rintro y H' ⟨rfl, rfl⟩
  refine ⟨.inl (by simp [Ptr, NP, I, R, RO, WO, RdO, Bs, EV.lit]), le_ok rfl, ?_⟩
  simp [he, RdO]
  exact fin [] (by decide) rfl rfl rfl ⟨rfl, rfl⟩

theorem RdHash_nil : ECalls Tryz.prog 24 [NP] [] fun y H' => H' = [] ∧ y = Ag (hz) := by
  refine ecalls k_RdHash ?_
  simp [c_RdHash, NP]
  refine call0 off_nil (by simp [NP]) ?_
  rintro y H' ⟨rfl, rfl⟩
  simp
  exact fin [] (by decide) rfl rfl rfl ⟨rfl, rfl⟩

/-- What was taken off ahead, and what comes behind it. -/
def addS (out : List UInt8) (i : Nat) (q : Nat × List UInt8 × Nat) : Nat × List UInt8 × Nat := if q.1 ≠ 0 then (q.1, [], 0) else (0, out ++ q.2.1, i + q.2.2)
theorem addS_addS (o1 o2 : List UInt8) (i j : Nat) (q : Nat × List UInt8 × Nat) : addS o1 i (addS o2 j q) = addS (o1 ++ o2) (i + j) q := by
  by_cases h : q.1 = 0 <;> simp [addS, h, Nat.add_assoc]
/-- The bytes that bytes begin with, at most so many: the error, the bytes, how many it takes. -/
def bytS : List UInt8 → Nat → Nat × List UInt8 × Nat
  | [], _ => (12, [], 0)
  | c :: r, m => if c = 0 then (match r with
      | [] => (12, [], 0)
      | x :: r' => if x = 0 then (0, [], 2) else if x ≠ 255 then (3, [], 0) else if m = 0 then (2, [], 0) else addS [0] 2 (bytS r' (m - 1)))
    else if m = 0 then (2, [], 0) else addS [c] 1 (bytS r (m - 1))
theorem bytS_c {c : UInt8} {r : List UInt8} {m : Nat} (h : c ≠ 0) (hm : m ≠ 0) : bytS (c :: r) m = addS [c] 1 (bytS r (m - 1)) := by rw [bytS.eq_def]; simp [h, hm]
theorem bytS_0 {r : List UInt8} {m : Nat} (hm : m ≠ 0) : bytS (0 :: 255 :: r) m = addS [0] 2 (bytS r (m - 1)) := by rw [bytS.eq_def]; simp [hm]
theorem bytS_len : ∀ (b : List UInt8) (m : Nat), (bytS b m).2.2 ≤ b.length ∧ (bytS b m).2.1.length ≤ m ∧ (bytS b m).2.1.length ≤ b.length ∧ ((bytS b m).1 ≠ 0 → (bytS b m).2.1 = [] ∧ (bytS b m).2.2 = 0)
  | [], m => by simp [bytS]
  | [c], m => by
    by_cases h : c = 0
    · subst h; simp [bytS]
    · by_cases hm : m = 0
      · subst hm; simp [bytS, h]
      · rw [bytS_c h hm]; simp [bytS, addS]
  | c :: x :: r, m => by
    by_cases h : c = 0
    · subst h
      by_cases h1 : x = 0
      · subst h1; simp [bytS]
      · by_cases h2 : x = 255
        · subst h2
          by_cases hm : m = 0
          · subst hm; simp [bytS]
          · rw [bytS_0 hm]
            have := bytS_len r (m - 1)
            unfold addS
            split
            · simp
            · simp; omega
        · have : bytS (0 :: x :: r) m = (3, [], 0) := by rw [bytS.eq_def]; simp [h1, h2]
          rw [this]; simp
    · by_cases hm : m = 0
      · subst hm; simp [bytS, h]
      · rw [bytS_c h hm]
        have := bytS_len (x :: r) (m - 1)
        unfold addS
        split
        · simp
        · simp at this ⊢; omega

theorem drop_cons {α : Type} {b : List α} {i : Nat} {c : α} (h : b[i]? = some c) : b.drop i = c :: b.drop (i + 1) := by
  have hi : i < b.length := lt_len h
  rw [List.drop_eq_getElem_cons hi]
  congr 1
  rw [List.getElem?_eq_getElem hi] at h
  exact Option.some.inj h
theorem bsv_get {b : List UInt8} {i : Nat} {c : UInt8} (h : b[i]? = some c) : (bsv b)[i]? = some (cb c) := by simp [bsv, h]

/-- The same, for any bound. -/
def bytZ (b : List UInt8) (most : Int) : Nat × List UInt8 × Nat := if most < 0 then (1, [], 0) else bytS b most.toNat

end Go.Proofs.YtpohjnhlhfbnaaaGreatDoor

namespace Go.Proofs.YtpohjnhlhfbnaaaGreatDoor
open Go Go.EW
set_option linter.unusedSimpArgs false
set_option linter.unusedVariables false

@[simp] def l_side_1 (_ : Unit) : List EOp := [⟨0, (some 2), none, (.q (.mov (.k (.bool false)))), []⟩]
@[simp] def b_side_2 (_ : Unit) : EB := reg0 (hid l_side_1) 1
@[simp] def l_side_4 (_ : Unit) : List EOp := [⟨6, (some 2), none, (.q (.mov (.t 8))), []⟩]
@[simp] def l_side_3 (_ : Unit) : List EOp := ⟨0, (some 3), none, (.q (.mov (.t 0))), []⟩ :: ⟨1, (some 4), none, (.q (.bin .eql (.t 3) (.k (.int .i64 0)))), []⟩ :: ⟨2, (some 5), none, (.q (.mov (.t 4))), []⟩ :: ⟨3, (some 6), (some (5, false)), (.q (.mov (.t 0))), []⟩ :: ⟨4, (some 7), (some (5, false)), (.q (.bin .eql (.t 6) (.k (.int .i64 1)))), []⟩ :: ⟨5, (some 8), none, (.q (.pick (.t 5) (.k (.bool true)) (.t 7))), []⟩ :: hid l_side_4
@[simp] def b_side_5 (_ : Unit) : EB := reg0 (hid l_side_3) 7
@[simp] def b_side_6 (_ : Unit) : EB := .seq (hid b_side_5) .ret
@[simp] def b_side_7 (_ : Unit) : EB := .seq (hid b_side_2) (hid b_side_6)
def c_side : EB × List QOp × Nat := ((hid b_side_7), [(.mov (.t 2))], 9)
theorem k_side : cfun Tryz.prog 46 = some c_side := by kernel_rfl

@[simp] def l_amount_1 (_ : Unit) : List EOp := [⟨0, (some 4), none, (.q (.mov (.k (.bool false)))), []⟩]
@[simp] def b_amount_2 (_ : Unit) : EB := reg0 (hid l_amount_1) 1
@[simp] def l_amount_4 (_ : Unit) : List EOp := [⟨6, (some 11), none, (.q (.pick (.t 8) (.t 10) (.k (.bool false)))), []⟩, ⟨7, (some 4), none, (.q (.mov (.t 11))), []⟩]
@[simp] def l_amount_3 (_ : Unit) : List EOp := ⟨0, (some 5), none, (.q (.mov (.t 0))), []⟩ :: ⟨1, (some 6), none, (.q (.mov (.t 1))), []⟩ :: ⟨2, (some 7), none, (.q (.bin .geq (.t 5) (.t 6))), []⟩ :: ⟨3, (some 8), none, (.q (.mov (.t 7))), []⟩ :: ⟨4, (some 9), (some (8, true)), (.q (.mov (.t 0))), []⟩ :: ⟨5, (some 10), (some (8, true)), (.q (.bin .leq (.t 9) (.k (.int .i64 1125899906842624)))), []⟩ :: hid l_amount_4
@[simp] def b_amount_5 (_ : Unit) : EB := reg0 (hid l_amount_3) 8
@[simp] def b_amount_6 (_ : Unit) : EB := .seq (hid b_amount_5) .ret
@[simp] def b_amount_7 (_ : Unit) : EB := .seq (hid b_amount_2) (hid b_amount_6)
def c_amount : EB × List QOp × Nat := ((hid b_amount_7), [(.mov (.t 4))], 12)
theorem k_amount : cfun Tryz.prog 51 = some c_amount := by kernel_rfl

@[simp] def l_Pmay_1 (_ : Unit) : List EOp := [⟨0, (some 1), none, (.q (.box 65 (.t 0))), []⟩, ⟨1, (some 2), none, (.q (.mov (.k (.bool false)))), []⟩]
@[simp] def b_Pmay_2 (_ : Unit) : EB := reg0 (hid l_Pmay_1) 2
@[simp] def l_Pmay_8 (_ : Unit) : List EOp := [⟨30, (some 33), (some (31, true)), (.q (.lda 32 (.t 32))), []⟩, ⟨31, (some 34), (some (31, true)), (.q (.build zU8 [])), []⟩, ⟨32, (some 35), (some (31, true)), (.q (.eqa true 32 .u8 (.t 33) (.t 34))), []⟩, ⟨33, (some 36), none, (.q (.pick (.t 31) (.t 35) (.k (.bool false)))), []⟩, ⟨34, (some 2), none, (.q (.mov (.t 36))), []⟩]
@[simp] def l_Pmay_7 (_ : Unit) : List EOp := ⟨24, (some 27), (some (26, true)), (.q (.fad 3 (.t 1))), []⟩ :: ⟨25, (some 28), (some (26, true)), (.q (.ldc (.t 27))), []⟩ :: ⟨26, (some 29), (some (26, true)), (.q (.bin .leq (.t 28) (.k (.int .i64 1099511627776)))), []⟩ :: ⟨27, (some 30), none, (.q (.pick (.t 26) (.t 29) (.k (.bool false)))), []⟩ :: ⟨28, (some 31), none, (.q (.mov (.t 30))), []⟩ :: ⟨29, (some 32), (some (31, true)), (.q (.fad 4 (.t 1))), []⟩ :: hid l_Pmay_8
@[simp] def l_Pmay_6 (_ : Unit) : List EOp := ⟨18, (some 21), none, (.q (.mov (.t 20))), []⟩ :: ⟨19, (some 22), (some (21, true)), (.q (.fad 3 (.t 1))), []⟩ :: ⟨20, (some 23), (some (21, true)), (.q (.ldc (.t 22))), []⟩ :: ⟨21, (some 24), (some (21, true)), (.q (.bin .geq (.t 23) (.k (.int .i64 0)))), []⟩ :: ⟨22, (some 25), none, (.q (.pick (.t 21) (.t 24) (.k (.bool false)))), []⟩ :: ⟨23, (some 26), none, (.q (.mov (.t 25))), []⟩ :: hid l_Pmay_7
@[simp] def l_Pmay_5 (_ : Unit) : List EOp := ⟨12, (some 15), none, (.q (.pick (.t 11) (.t 14) (.k (.bool false)))), []⟩ :: ⟨13, (some 16), none, (.q (.mov (.t 15))), []⟩ :: ⟨14, (some 17), (some (16, true)), (.q (.fad 2 (.t 1))), []⟩ :: ⟨15, (some 18), (some (16, true)), (.q (.ldc (.t 17))), []⟩ :: ⟨16, (some 19), (some (16, true)), (.call 51 [(.t 18), (.k (.int .i64 10))]), []⟩ :: ⟨17, (some 20), none, (.q (.pick (.t 16) (.t 19) (.k (.bool false)))), []⟩ :: hid l_Pmay_6
@[simp] def l_Pmay_4 (_ : Unit) : List EOp := ⟨6, (some 9), (some (6, true)), (.q (.bin .leq (.t 8) (.k (.int .i64 4294967296)))), []⟩ :: ⟨7, (some 10), none, (.q (.pick (.t 6) (.t 9) (.k (.bool false)))), []⟩ :: ⟨8, (some 11), none, (.q (.mov (.t 10))), []⟩ :: ⟨9, (some 12), (some (11, true)), (.q (.fad 1 (.t 1))), []⟩ :: ⟨10, (some 13), (some (11, true)), (.q (.ldc (.t 12))), []⟩ :: ⟨11, (some 14), (some (11, true)), (.call 46 [(.t 13)]), []⟩ :: hid l_Pmay_5
@[simp] def l_Pmay_3 (_ : Unit) : List EOp := ⟨0, (some 3), none, (.q (.fad 0 (.t 1))), []⟩ :: ⟨1, (some 4), none, (.q (.ldc (.t 3))), []⟩ :: ⟨2, (some 5), none, (.q (.bin .geq (.t 4) (.k (.int .i64 0)))), []⟩ :: ⟨3, (some 6), none, (.q (.mov (.t 5))), []⟩ :: ⟨4, (some 7), (some (6, true)), (.q (.fad 0 (.t 1))), []⟩ :: ⟨5, (some 8), (some (6, true)), (.q (.ldc (.t 7))), []⟩ :: hid l_Pmay_4
@[simp] def b_Pmay_9 (_ : Unit) : EB := reg0 (hid l_Pmay_3) 35
@[simp] def b_Pmay_10 (_ : Unit) : EB := .seq (hid b_Pmay_9) .ret
@[simp] def b_Pmay_11 (_ : Unit) : EB := .seq (hid b_Pmay_2) (hid b_Pmay_10)
def c_Pmay : EB × List QOp × Nat := ((hid b_Pmay_11), [(.mov (.t 2))], 37)
theorem k_Pmay : cfun Tryz.prog 52 = some c_Pmay := by kernel_rfl

@[simp] def l_Hmay_1 (_ : Unit) : List EOp := [⟨0, (some 1), none, (.q (.box 66 (.t 0))), []⟩, ⟨1, (some 2), none, (.q (.mov (.k (.bool false)))), []⟩]
@[simp] def b_Hmay_2 (_ : Unit) : EB := reg0 (hid l_Hmay_1) 2
@[simp] def l_Hmay_3 (_ : Unit) : List EOp := [⟨0, (some 3), none, (.q (.mov (.k (.int .i64 (-1))))), []⟩]
@[simp] def b_Hmay_4 (_ : Unit) : EB := reg0 (hid l_Hmay_3) 1
@[simp] def l_Hmay_5 (_ : Unit) : List EOp := [⟨0, (some 6), none, (.q (.fad 2 (.t 1))), []⟩, ⟨1, (some 7), none, (.q (.ldc (.t 6))), []⟩, ⟨2, (some 8), none, (.q (.len (.t 7))), []⟩, ⟨3, (some 9), none, (.q (.mov (.k (.int .i64 0)))), []⟩]
@[simp] def b_Hmay_6 (_ : Unit) : EB := reg0 (hid l_Hmay_5) 4
@[simp] def l_Hmay_7 (_ : Unit) : List EOp := [⟨0, (some 10), none, (.q (.bin .lss (.t 9) (.t 8))), []⟩]
@[simp] def b_Hmay_8 (_ : Unit) : EB := reg0 (hid l_Hmay_7) 1
@[simp] def b_Hmay_9 (_ : Unit) : EB := .cond (.t 10) .skip (.exit 0)
@[simp] def l_Hmay_10 (_ : Unit) : List EOp := [⟨0, (some 11), none, (.q (.isl 1 (.t 7) (.t 9))), []⟩, ⟨1, (some 12), none, (.q (.ldc (.t 11))), []⟩, ⟨2, (some 5), none, (.q (.mov (.t 12))), []⟩]
@[simp] def b_Hmay_11 (_ : Unit) : EB := reg0 (hid l_Hmay_10) 3
@[simp] def l_Hmay_13 (_ : Unit) : List EOp := [⟨6, (some 19), none, (.q (.pick (.t 16) (.k (.bool true)) (.t 18))), []⟩]
@[simp] def l_Hmay_12 (_ : Unit) : List EOp := ⟨0, (some 13), none, (.q (.mov (.t 5))), []⟩ :: ⟨1, (some 14), none, (.q (.mov (.t 3))), []⟩ :: ⟨2, (some 15), none, (.q (.bin .leq (.t 13) (.t 14))), []⟩ :: ⟨3, (some 16), none, (.q (.mov (.t 15))), []⟩ :: ⟨4, (some 17), (some (16, false)), (.q (.mov (.t 5))), []⟩ :: ⟨5, (some 18), (some (16, false)), (.q (.bin .geq (.t 17) (.k (.int .i64 16)))), []⟩ :: hid l_Hmay_13
@[simp] def b_Hmay_14 (_ : Unit) : EB := reg0 (hid l_Hmay_12) 7
@[simp] def l_Hmay_15 (_ : Unit) : List EOp := [⟨0, (some 2), none, (.q (.mov (.k (.bool false)))), []⟩]
@[simp] def b_Hmay_16 (_ : Unit) : EB := reg0 (hid l_Hmay_15) 1
@[simp] def b_Hmay_17 (_ : Unit) : EB := .seq (hid b_Hmay_16) .ret
@[simp] def b_Hmay_18 (_ : Unit) : EB := .cond (.t 19) (hid b_Hmay_17) .skip
@[simp] def b_Hmay_19 (_ : Unit) : EB := .seq (hid b_Hmay_14) (hid b_Hmay_18)
@[simp] def l_Hmay_20 (_ : Unit) : List EOp := [⟨0, (some 20), none, (.q (.mov (.t 5))), []⟩, ⟨1, (some 3), none, (.q (.mov (.t 20))), []⟩]
@[simp] def b_Hmay_21 (_ : Unit) : EB := reg0 (hid l_Hmay_20) 2
@[simp] def b_Hmay_22 (_ : Unit) : EB := .seq (hid b_Hmay_19) (hid b_Hmay_21)
@[simp] def b_Hmay_23 (_ : Unit) : EB := .seq (hid b_Hmay_11) (hid b_Hmay_22)
@[simp] def b_Hmay_24 (_ : Unit) : EB := .block 1 (hid b_Hmay_23)
@[simp] def l_Hmay_25 (_ : Unit) : List EOp := [⟨0, (some 21), none, (.q (.bin .add (.t 9) (.k (.int .i64 1)))), []⟩, ⟨1, (some 9), none, (.q (.mov (.t 21))), []⟩]
@[simp] def b_Hmay_26 (_ : Unit) : EB := reg0 (hid l_Hmay_25) 2
@[simp] def b_Hmay_27 (_ : Unit) : EB := .seq (hid b_Hmay_24) (hid b_Hmay_26)
@[simp] def b_Hmay_28 (_ : Unit) : EB := .seq (hid b_Hmay_9) (hid b_Hmay_27)
@[simp] def b_Hmay_29 (_ : Unit) : EB := .seq (hid b_Hmay_8) (hid b_Hmay_28)
@[simp] def b_Hmay_30 (_ : Unit) : EB := .loop (hid b_Hmay_29)
@[simp] def b_Hmay_31 (_ : Unit) : EB := .block 0 (hid b_Hmay_30)
@[simp] def b_Hmay_32 (_ : Unit) : EB := .seq (hid b_Hmay_6) (hid b_Hmay_31)
@[simp] def l_Hmay_36 (_ : Unit) : List EOp := [⟨18, (some 40), none, (.q (.pick (.t 35) (.t 39) (.k (.bool false)))), []⟩, ⟨19, (some 2), none, (.q (.mov (.t 40))), []⟩]
@[simp] def l_Hmay_35 (_ : Unit) : List EOp := ⟨12, (some 34), none, (.q (.pick (.t 30) (.t 33) (.k (.bool false)))), []⟩ :: ⟨13, (some 35), none, (.q (.mov (.t 34))), []⟩ :: ⟨14, (some 36), (some (35, true)), (.q (.fad 2 (.t 1))), []⟩ :: ⟨15, (some 37), (some (35, true)), (.q (.ldc (.t 36))), []⟩ :: ⟨16, (some 38), (some (35, true)), (.q (.len (.t 37))), []⟩ :: ⟨17, (some 39), (some (35, true)), (.q (.bin .geq (.t 38) (.k (.int .i64 1)))), []⟩ :: hid l_Hmay_36
@[simp] def l_Hmay_34 (_ : Unit) : List EOp := ⟨6, (some 28), (some (25, true)), (.q (.bin .leq (.t 27) (.k (.int .i64 4294967296)))), []⟩ :: ⟨7, (some 29), none, (.q (.pick (.t 25) (.t 28) (.k (.bool false)))), []⟩ :: ⟨8, (some 30), none, (.q (.mov (.t 29))), []⟩ :: ⟨9, (some 31), (some (30, true)), (.q (.fad 1 (.t 1))), []⟩ :: ⟨10, (some 32), (some (30, true)), (.q (.ldc (.t 31))), []⟩ :: ⟨11, (some 33), (some (30, true)), (.call 51 [(.t 32), (.k (.int .i64 10))]), []⟩ :: hid l_Hmay_35
@[simp] def l_Hmay_33 (_ : Unit) : List EOp := ⟨0, (some 22), none, (.q (.fad 0 (.t 1))), []⟩ :: ⟨1, (some 23), none, (.q (.ldc (.t 22))), []⟩ :: ⟨2, (some 24), none, (.q (.bin .geq (.t 23) (.k (.int .i64 0)))), []⟩ :: ⟨3, (some 25), none, (.q (.mov (.t 24))), []⟩ :: ⟨4, (some 26), (some (25, true)), (.q (.fad 0 (.t 1))), []⟩ :: ⟨5, (some 27), (some (25, true)), (.q (.ldc (.t 26))), []⟩ :: hid l_Hmay_34
@[simp] def b_Hmay_37 (_ : Unit) : EB := reg0 (hid l_Hmay_33) 20
@[simp] def b_Hmay_38 (_ : Unit) : EB := .seq (hid b_Hmay_37) .ret
@[simp] def b_Hmay_39 (_ : Unit) : EB := .seq (hid b_Hmay_32) (hid b_Hmay_38)
@[simp] def b_Hmay_40 (_ : Unit) : EB := .seq (hid b_Hmay_4) (hid b_Hmay_39)
@[simp] def b_Hmay_41 (_ : Unit) : EB := .seq (hid b_Hmay_2) (hid b_Hmay_40)
def c_Hmay : EB × List QOp × Nat := ((hid b_Hmay_41), [(.mov (.t 2))], 41)
theorem k_Hmay : cfun Tryz.prog 53 = some c_Hmay := by kernel_rfl


/-! ### payments, holds, states: plain -/
structure Pay where
  id : Int
  fr : Int
  am : Int
  af : Int
  lock : List UInt8
structure Hol where
  id : Int
  am : Int
  keys : List Int
structure Sta where
  num : Int
  h0 : Int
  h1 : Int
  pays : List Pay
  holds : List Hol
def i64 (n : Int) : Prop := -9223372036854775808 ≤ n ∧ n ≤ 9223372036854775807
def Pay.ok (p : Pay) : Prop := i64 p.id ∧ i64 p.fr ∧ i64 p.am ∧ i64 p.af ∧ p.lock.length = 32
def Hol.ok (h : Hol) : Prop := i64 h.id ∧ i64 h.am ∧ (∀ k ∈ h.keys, i64 k) ∧ h.keys.length ≤ 100000000
def Sta.ok (s : Sta) : Prop := i64 s.num ∧ i64 s.h0 ∧ i64 s.h1 ∧ (∀ p ∈ s.pays, p.ok) ∧ (∀ h ∈ s.holds, h.ok) ∧ s.pays.length ≤ 100000000 ∧ s.holds.length ≤ 100000000
def payF (p : Pay) : List FV := .lit (.int .i64 p.id) :: .lit (.int .i64 p.fr) :: .lit (.int .i64 p.am) :: .lit (.int .i64 p.af) :: hf p.lock
def intv (l : List Int) : List (List FV) := l.map fun k => [.lit (.int .i64 k)]
def holF (h : Hol) : List FV := [.lit (.int .i64 h.id), .lit (.int .i64 h.am), .sl 1 (intv h.keys)]
def payv (l : List Pay) : List (List FV) := l.map payF
def holv (l : List Hol) : List (List FV) := l.map holF
@[simp] theorem payv_len (l : List Pay) : (payv l).length = l.length := by simp [payv]
@[simp] theorem holv_len (l : List Hol) : (holv l).length = l.length := by simp [holv]
theorem payv_get {l : List Pay} {i : Nat} {p : Pay} (h : l[i]? = some p) : (payv l)[i]? = some (payF p) := by simp [payv, h]
theorem holv_get {l : List Hol} {i : Nat} {p : Hol} (h : l[i]? = some p) : (holv l)[i]? = some (holF p) := by simp [holv, h]
def payC (p : Pay) : List EC := .fz (.lit (.int .i64 p.id)) :: .fz (.lit (.int .i64 p.fr)) :: .fz (.lit (.int .i64 p.am)) :: .fz (.lit (.int .i64 p.af)) :: hc p.lock
def holC (h : Hol) : List EC := [.fz (.lit (.int .i64 h.id)), .fz (.lit (.int .i64 h.am)), .fz (.sl 1 (intv h.keys))]
def staC (s : Sta) : List EC := [.fz (.lit (.int .i64 s.num)), .fz (.lit (.int .i64 s.h0)), .fz (.lit (.int .i64 s.h1)), .fz (.sl 36 (payv s.pays)), .fz (.sl 3 (holv s.holds))]
def SV (s : Sta) : EV := .v (.agg (staC s))
theorem payF_len {p : Pay} (h : p.lock.length = 32) : (payF p).length = 36 := by simp [payF, h]
theorem payF_fz (p : Pay) : (payF p).map EC.fz = payC p := by simp [payF, payC]
theorem payC_len {p : Pay} (h : p.lock.length = 32) : (payC p).length = 36 := by simp [payC, h]
theorem payC_take {p : Pay} (h : p.lock.length = 32) : (payC p).take 36 = payC p := List.take_of_length_le (by rw [payC_len h]; omega)
theorem hc_t32 {l : List UInt8} (h : l.length = 32) : (hc l).take 32 = hc l := List.take_of_length_le (by rw [hc_len, h]; omega)
@[simp] theorem intv_len (l : List Int) : (intv l).length = l.length := by simp [intv]

/-! ### what may be -/
def mayP (p : Pay) : Bool := decide (0 ≤ p.id ∧ p.id ≤ 4294967296 ∧ (p.fr = 0 ∨ p.fr = 1) ∧ 10 ≤ p.am ∧ p.am ≤ 1125899906842624 ∧ 0 ≤ p.af ∧ p.af ≤ 1099511627776 ∧ p.lock ≠ hz)
def keysS : Int → List Int → Bool
  | _, [] => true
  | last, k :: r => decide (last < k ∧ k < 16) && keysS k r
def mayH (h : Hol) : Bool := keysS (-1) h.keys && decide (0 ≤ h.id ∧ h.id ≤ 4294967296 ∧ 10 ≤ h.am ∧ h.am ≤ 1125899906842624 ∧ 1 ≤ h.keys.length)
def aft (o : Option Int) (n : Int) : Bool := match o with
  | none => true
  | some q => decide (q < n)
def payL : Option Int → List Pay → Bool
  | _, [] => true
  | o, p :: r => mayP p && aft o p.id && payL (some p.id) r
def holL : Option Int → List Hol → Bool
  | _, [] => true
  | o, h :: r => mayH h && aft o h.id && holL (some h.id) r
def sumP (l : List Pay) : Int := (l.map (·.am)).sum
def sumH (l : List Hol) : Int := (l.map (·.am)).sum
def total (s : Sta) : Int := s.h0 + s.h1 + sumP s.pays + sumH s.holds
def mayS (s : Sta) : Bool := decide (0 ≤ s.num ∧ s.num ≤ 1099511627776 ∧ 0 ≤ s.h0 ∧ s.h0 ≤ 1125899906842624 ∧ 0 ≤ s.h1 ∧ s.h1 ≤ 1125899906842624 ∧ s.pays.length ≤ 8 ∧ s.holds.length + s.pays.length ≤ 8) && payL none s.pays && holL none s.holds && decide (total s ≤ 1125899906842624)

theorem side_ok (n : Int) : ECalls Tryz.prog 46 [I .i64 n] [] fun y H' => H' = [] ∧ y = .lit (.bool (decide (n = 0 ∨ n = 1))) := by
  refine ecalls k_side ?_
  simp [c_side, I]
  by_cases h : n = 0
  · simp [h]
    exact fin [] (by decide) rfl rfl rfl ⟨rfl, rfl⟩
  · simp [h]
    exact fin [] (by decide) rfl rfl rfl ⟨rfl, rfl⟩

theorem amount_ok (n least : Int) : ECalls Tryz.prog 51 [I .i64 n, I .i64 least] [] fun y H' => H' = [] ∧ y = .lit (.bool (decide (least ≤ n ∧ n ≤ 1125899906842624))) := by
  refine ecalls k_amount ?_
  simp [c_amount, I]
  by_cases h : least ≤ n
  · simp [h]
    exact fin [] (by decide) rfl rfl rfl ⟨rfl, rfl⟩
  · simp [h]
    exact fin [] (by decide) rfl rfl rfl ⟨rfl, rfl⟩

set_option maxHeartbeats 1000000 in
theorem Pmay_ok (p : Pay) (hp : p.lock.length = 32) : ECalls Tryz.prog 52 [.v (.agg (payC p))] [] fun y H' => H' = [] ∧ y = .lit (.bool (mayP p)) := by
  have ht : p.lock.take 32 = p.lock := List.take_of_length_le (by omega)
  refine ecalls k_Pmay ?_
  simp [c_Pmay, payC, I, ht]
  refine alt (fun h1 => ?_) (fun h1 => ?_)
  rotate_left
  · (first | simp [I, EV.lit, h1, Int.not_le.2 h1] | simp [I, EV.lit, h1, Int.not_lt.2 h1] | simp [I, EV.lit, h1, Int.not_lt.1 h1] | simp [I, EV.lit, h1, Int.not_le.1 h1] | simp [I, EV.lit, h1])
    exact fin [] (by decide) rfl rfl rfl ⟨rfl, by rw [show mayP p = false from decide_eq_false (by omega)]⟩
  (first | simp [I, EV.lit, h1, Int.not_le.2 h1] | simp [I, EV.lit, h1, Int.not_lt.2 h1] | simp [I, EV.lit, h1, Int.not_lt.1 h1] | simp [I, EV.lit, h1, Int.not_le.1 h1] | simp [I, EV.lit, h1])
  refine alt (fun h2 => ?_) (fun h2 => ?_)
  rotate_left
  · (first | simp [I, EV.lit, h2, Int.not_le.2 h2] | simp [I, EV.lit, h2, Int.not_lt.2 h2] | simp [I, EV.lit, h2, Int.not_lt.1 h2] | simp [I, EV.lit, h2, Int.not_le.1 h2] | simp [I, EV.lit, h2])
    exact fin [] (by decide) rfl rfl rfl ⟨rfl, by rw [show mayP p = false from decide_eq_false (by omega)]⟩
  (first | simp [I, EV.lit, h2, Int.not_le.2 h2] | simp [I, EV.lit, h2, Int.not_lt.2 h2] | simp [I, EV.lit, h2, Int.not_lt.1 h2] | simp [I, EV.lit, h2, Int.not_le.1 h2] | simp [I, EV.lit, h2])
  refine call0 (side_ok p.fr) (by simp [I, EV.lit]) ?_
  rintro y H' ⟨rfl, rfl⟩
  refine ⟨.inl (by simp [I, EV.lit]), le_ok rfl, ?_⟩
  simp [EV.lit]
  refine alt (fun h3 => ?_) (fun h3 => ?_)
  rotate_left
  · (first | simp [I, EV.lit, h3, Int.not_le.2 h3] | simp [I, EV.lit, h3, Int.not_lt.2 h3] | simp [I, EV.lit, h3, Int.not_lt.1 h3] | simp [I, EV.lit, h3, Int.not_le.1 h3] | simp [I, EV.lit, h3])
    exact fin [] (by decide) rfl rfl rfl ⟨rfl, by rw [show mayP p = false from decide_eq_false (by omega)]⟩
  (first | simp [I, EV.lit, h3, Int.not_le.2 h3] | simp [I, EV.lit, h3, Int.not_lt.2 h3] | simp [I, EV.lit, h3, Int.not_lt.1 h3] | simp [I, EV.lit, h3, Int.not_le.1 h3] | simp [I, EV.lit, h3])
  refine call0 (amount_ok p.am 10) (by simp [I, EV.lit]) ?_
  rintro y H' ⟨rfl, rfl⟩
  refine ⟨.inl (by simp [I, EV.lit]), le_ok rfl, ?_⟩
  simp [EV.lit]
  refine alt (fun h4 => ?_) (fun h4 => ?_)
  rotate_left
  · (first | simp [I, EV.lit, h4, Int.not_le.2 h4] | simp [I, EV.lit, h4, Int.not_lt.2 h4] | simp [I, EV.lit, h4, Int.not_lt.1 h4] | simp [I, EV.lit, h4, Int.not_le.1 h4] | simp [I, EV.lit, h4])
    exact fin [] (by decide) rfl rfl rfl ⟨rfl, by rw [show mayP p = false from decide_eq_false (by omega)]⟩
  (first | simp [I, EV.lit, h4, Int.not_le.2 h4] | simp [I, EV.lit, h4, Int.not_lt.2 h4] | simp [I, EV.lit, h4, Int.not_lt.1 h4] | simp [I, EV.lit, h4, Int.not_le.1 h4] | simp [I, EV.lit, h4])
  refine alt (fun h5 => ?_) (fun h5 => ?_)
  rotate_left
  · (first | simp [I, EV.lit, h5, Int.not_le.2 h5] | simp [I, EV.lit, h5, Int.not_lt.2 h5] | simp [I, EV.lit, h5, Int.not_lt.1 h5] | simp [I, EV.lit, h5, Int.not_le.1 h5] | simp [I, EV.lit, h5])
    exact fin [] (by decide) rfl rfl rfl ⟨rfl, by rw [show mayP p = false from decide_eq_false (by omega)]⟩
  (first | simp [I, EV.lit, h5, Int.not_le.2 h5] | simp [I, EV.lit, h5, Int.not_lt.2 h5] | simp [I, EV.lit, h5, Int.not_lt.1 h5] | simp [I, EV.lit, h5, Int.not_le.1 h5] | simp [I, EV.lit, h5])
  refine alt (fun h6 => ?_) (fun h6 => ?_)
  rotate_left
  · (first | simp [I, EV.lit, h6, Int.not_le.2 h6] | simp [I, EV.lit, h6, Int.not_lt.2 h6] | simp [I, EV.lit, h6, Int.not_lt.1 h6] | simp [I, EV.lit, h6, Int.not_le.1 h6] | simp [I, EV.lit, h6])
    exact fin [] (by decide) rfl rfl rfl ⟨rfl, by rw [show mayP p = false from decide_eq_false (by omega)]⟩
  (first | simp [I, EV.lit, h6, Int.not_le.2 h6] | simp [I, EV.lit, h6, Int.not_lt.2 h6] | simp [I, EV.lit, h6, Int.not_lt.1 h6] | simp [I, EV.lit, h6, Int.not_le.1 h6] | simp [I, EV.lit, h6])
  refine alt (fun h7 => ?_) (fun h7 => ?_)
  rotate_left
  · simp [h7]
    exact fin [] (by decide) rfl rfl rfl ⟨rfl, by rw [show mayP p = false from decide_eq_false (by omega)]⟩
  simp [h7, hp, ht]
  have hm : mayP p = !decide (p.lock = hz) := by
    by_cases e : p.lock = hz
    · rw [show mayP p = false from decide_eq_false (fun h => h.2.2.2.2.2.2.2 e)]; simp [e]
    · rw [show mayP p = true from decide_eq_true ⟨by omega, by omega, by omega, by omega, by omega, by omega, by omega, e⟩]; simp [e]
  exact fin [] (by decide) rfl rfl rfl ⟨rfl, by rw [hm]⟩

theorem mayH_f {h : Hol} (q : ¬ (0 ≤ h.id ∧ h.id ≤ 4294967296 ∧ 10 ≤ h.am ∧ h.am ≤ 1125899906842624 ∧ 1 ≤ h.keys.length)) : mayH h = false := by simp only [mayH, decide_eq_false q, Bool.and_false]
theorem intv_get {l : List Int} {i : Nat} {k : Int} (h : l[i]? = some k) : (intv l)[i]? = some [.lit (.int .i64 k)] := by simp [intv, h]
def IL (l : List Int) : EV := .v (.c (.fz (.sl 1 (intv l))))

set_option maxHeartbeats 1000000 in
theorem Hmay_ok (h : Hol) (hk : h.keys.length ≤ 100000000) : ECalls Tryz.prog 53 [.v (.agg (holC h))] [] fun y H' => H' = [] ∧ y = .lit (.bool (mayH h)) := by
  refine ecalls k_Hmay ?_
  simp [c_Hmay, holC]
  refine eloop (α := Nat × Int) (fun a => a.1 ≤ h.keys.length ∧ keysS (-1) h.keys = keysS a.2 (h.keys.drop a.1)) (fun a => h.keys.length - a.1)
    (fun a => [.any, Ptr 0, .any, I .i64 a.2, .any, .any, .any, IL h.keys, I .i64 h.keys.length, I .i64 a.1, .any, .any, .any, .any, .any, .any, .any, .any, .any, .any, .any, .any, .any, .any, .any, .any, .any, .any, .any, .any, .any, .any, .any, .any, .any, .any, .any, .any, .any, .any, .any]) (fun a => [some (.box 66 (holC h))]) (0, -1) [0]
    ⟨by simp, by simp⟩ (by simp [Ptr, I, IL]) (by simp [holC]) (by simp) (by simp) (by simp) ?_
  rintro ⟨i, last⟩ ⟨hi1, hi2⟩
  simp [Ptr, I, IL, holC] at hi1 hi2 ⊢
  refine alt (fun hlt => ?_) (fun hlt => ?_)
  · obtain ⟨k, hc⟩ : ∃ k, h.keys[i]? = some k := ⟨h.keys[i], by simp [hlt]⟩
    have hcb := intv_get hc
    rw [drop_cons hc] at hi2
    have w1 : IntKind.i64.wrap ((i : Int) + 1) = ((i + 1 : Nat) : Int) := wrap_i64 (by omega) (by omega)
    have hbad : ¬ (last < k ∧ k < 16) → mayH h = false := fun q => by simp only [mayH, hi2, keysS, decide_eq_false q, Bool.false_and]
    have hgood : last < k → k < 16 → keysS (-1) h.keys = keysS k (h.keys.drop (i + 1)) := fun q1 q2 => by rw [hi2, keysS, decide_eq_true ⟨q1, q2⟩, Bool.true_and]
    simp [hcb]
    refine alt (fun c1 => ?_) (fun c1 => ?_)
    rotate_left
    · (first | simp [I, EV.lit, c1, Int.not_le.2 c1] | simp [I, EV.lit, c1, Int.not_lt.2 c1] | simp [I, EV.lit, c1, Int.not_lt.1 c1] | simp [I, EV.lit, c1, Int.not_le.1 c1] | simp [I, EV.lit, c1])
      exact fin [] (by decide) rfl rfl rfl ⟨rfl, by rw [hbad (by omega)]⟩
    (first | simp [I, EV.lit, c1, Int.not_le.2 c1] | simp [I, EV.lit, c1, Int.not_lt.2 c1] | simp [I, EV.lit, c1, Int.not_lt.1 c1] | simp [I, EV.lit, c1, Int.not_le.1 c1] | simp [I, EV.lit, c1])
    refine alt (fun c2 => ?_) (fun c2 => ?_)
    · (first | simp [I, EV.lit, c2, Int.not_le.2 c2] | simp [I, EV.lit, c2, Int.not_lt.2 c2] | simp [I, EV.lit, c2, Int.not_lt.1 c2] | simp [I, EV.lit, c2, Int.not_le.1 c2] | simp [I, EV.lit, c2])
      exact fin [] (by decide) rfl rfl rfl ⟨rfl, by rw [hbad (by omega)]⟩
    (first | simp [I, EV.lit, c2, Int.not_le.2 c2, w1, -Int.natCast_add] | simp [I, EV.lit, c2, Int.not_lt.2 c2, w1, -Int.natCast_add] | simp [I, EV.lit, c2, Int.not_lt.1 c2, w1, -Int.natCast_add] | simp [I, EV.lit, c2, Int.not_le.1 c2, w1, -Int.natCast_add] | simp [I, EV.lit, c2, w1, -Int.natCast_add])
    exact round (i + 1, k) [0] ⟨by omega, hgood (by omega) (by omega)⟩ (by simp; omega) (by simp) (by simp) (by simp) (by simp) (by simp)
  · have hd : h.keys.drop i = [] := by rw [List.drop_eq_nil_iff]; omega
    have hks : keysS (-1) h.keys = true := by rw [hi2, hd]; rfl
    simp
    refine alt (fun c1 => ?_) (fun c1 => ?_)
    rotate_left
    · (first | simp [I, EV.lit, c1, Int.not_le.2 c1] | simp [I, EV.lit, c1, Int.not_lt.2 c1] | simp [I, EV.lit, c1, Int.not_lt.1 c1] | simp [I, EV.lit, c1, Int.not_le.1 c1] | simp [I, EV.lit, c1])
      exact fin [] (by decide) rfl rfl rfl ⟨rfl, by rw [mayH_f (by omega)]⟩
    (first | simp [I, EV.lit, c1, Int.not_le.2 c1] | simp [I, EV.lit, c1, Int.not_lt.2 c1] | simp [I, EV.lit, c1, Int.not_lt.1 c1] | simp [I, EV.lit, c1, Int.not_le.1 c1] | simp [I, EV.lit, c1])
    refine alt (fun c2 => ?_) (fun c2 => ?_)
    rotate_left
    · (first | simp [I, EV.lit, c2, Int.not_le.2 c2] | simp [I, EV.lit, c2, Int.not_lt.2 c2] | simp [I, EV.lit, c2, Int.not_lt.1 c2] | simp [I, EV.lit, c2, Int.not_le.1 c2] | simp [I, EV.lit, c2])
      exact fin [] (by decide) rfl rfl rfl ⟨rfl, by rw [mayH_f (by omega)]⟩
    (first | simp [I, EV.lit, c2, Int.not_le.2 c2] | simp [I, EV.lit, c2, Int.not_lt.2 c2] | simp [I, EV.lit, c2, Int.not_lt.1 c2] | simp [I, EV.lit, c2, Int.not_le.1 c2] | simp [I, EV.lit, c2])
    refine call0 (amount_ok h.am 10) (by simp [I, EV.lit]) ?_
    rintro y H' ⟨rfl, rfl⟩
    refine ⟨.inl (by simp [I, EV.lit]), le_ok rfl, ?_⟩
    simp [EV.lit]
    refine alt (fun c3 => ?_) (fun c3 => ?_)
    rotate_left
    · (first | simp [I, EV.lit, c3, Int.not_le.2 c3] | simp [I, EV.lit, c3, Int.not_lt.2 c3] | simp [I, EV.lit, c3, Int.not_lt.1 c3] | simp [I, EV.lit, c3, Int.not_le.1 c3] | simp [I, EV.lit, c3])
      exact fin [] (by decide) rfl rfl rfl ⟨rfl, by rw [mayH_f (by omega)]⟩
    (first | simp [I, EV.lit, c3, Int.not_le.2 c3] | simp [I, EV.lit, c3, Int.not_lt.2 c3] | simp [I, EV.lit, c3, Int.not_lt.1 c3] | simp [I, EV.lit, c3, Int.not_le.1 c3] | simp [I, EV.lit, c3])
    by_cases q : 1 ≤ h.keys.length
    · have hm : mayH h = true := by
        simp only [mayH, hks, Bool.true_and]
        exact decide_eq_true ⟨by omega, by omega, by omega, by omega, q⟩
      exact fin [] (by decide) rfl rfl rfl ⟨rfl, litB (by rw [hm]; exact decide_eq_true (by omega))⟩
    · exact fin [] (by decide) rfl rfl rfl ⟨rfl, litB (by rw [mayH_f (by omega)]; exact decide_eq_false (by omega))⟩

end Go.Proofs.YtpohjnhlhfbnaaaGreatDoor
