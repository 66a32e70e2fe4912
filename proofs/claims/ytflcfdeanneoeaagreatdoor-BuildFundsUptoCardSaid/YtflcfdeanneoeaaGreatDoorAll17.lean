import Derived.Test.YtflcfdeanneoeaaGreatDoorAll6
import Derived.Test.YtflcfdeanneoeaaGreatDoorAll16
import Derived.Test.YtflcfdeanneoeaaGreatDoorAll13
import Derived.Test.YtflcfdeanneoeaaGreatDoorAll12
import Derived.Test.YtflcfdeanneoeaaGreatDoorAll5
import Derived.Test.YtflcfdeanneoeaaGreatDoorProg
import Derived.Test.YtflcfdeanneoeaaGreatDoorAll4
import Derived.WalkKit
import Derived.LaidEql
import Derived.RowKitTokens
import Derived.Lib.AppendZeros
import Derived.Test.YtflcfdeanneoeaaGreatDoorAll9
namespace Go.Proofs.YtflcfdeanneoeaaGreatDoor
open Go Go.EW
set_option linter.unusedSimpArgs false
@[simp] def l_digits_1 (_ : Unit) : List EOp := [xQ 0 2 (.mov (.k (.slice none 0 0)))]
@[simp] def b_digits_2 (_ : Unit) : EB := reg0 (hid l_digits_1) 1
@[simp] def l_digits_3 (_ : Unit) : List EOp := [xQ 0 3 (.mov (.k (.slice none 0 0)))]
@[simp] def b_digits_4 (_ : Unit) : EB := reg0 (hid l_digits_3) 1
@[simp] def l_digits_5 (_ : Unit) : List EOp := [xM 0 5 0, xQ 1 6 (.bin .gtr (.t 5) (.k (.int .u64 0)))]
@[simp] def b_digits_6 (_ : Unit) : EB := reg0 (hid l_digits_5) 2
@[simp] def b_digits_7 (_ : Unit) : EB := .cond (.t 6) .skip (.exit 0)
@[simp] def b_digits_8 (_ : Unit) : EB := .seq (hid b_digits_6) (hid b_digits_7)
@[simp] def l_digits_9 (_ : Unit) : List EOp := [xQ 0 4 (.mov (.k (.slice none 0 0)))]
@[simp] def b_digits_10 (_ : Unit) : EB := reg0 (hid l_digits_9) 1
@[simp] def l_digits_12 (_ : Unit) : List EOp := [xM 6 13 3, xO 7 14 (.app 5 1 1 (.t 12) (.t 13)), xM 8 3 14]
@[simp] def l_digits_11 (_ : Unit) : List EOp := xM 0 7 4 :: xM 1 8 0 :: xQ 2 9 (.bin .rem (.t 8) (.k (.int .u64 256))) :: xQ 3 10 (.cnv .u8 (.t 9)) :: xQ 4 11 (.bsl 1 [(.int .u8 0)] 1 [(0, (.t 10))]) :: xO 5 12 (.app 5 1 1 (.t 7) (.t 11)) :: hid l_digits_12
@[simp] def b_digits_13 (_ : Unit) : EB := reg0 (hid l_digits_11) 9
@[simp] def l_digits_14 (_ : Unit) : List EOp := [xM 0 15 0, xQ 1 16 (.bin .quo (.t 15) (.k (.int .u64 256))), xM 2 0 16]
@[simp] def b_digits_15 (_ : Unit) : EB := reg0 (hid l_digits_14) 3
@[simp] def b_digits_16 (_ : Unit) : EB := .seq (hid b_digits_13) (hid b_digits_15)
@[simp] def b_digits_17 (_ : Unit) : EB := .seq (hid b_digits_10) (hid b_digits_16)
@[simp] def b_digits_18 (_ : Unit) : EB := .block 1 (hid b_digits_17)
@[simp] def b_digits_19 (_ : Unit) : EB := .seq (hid b_digits_8) (hid b_digits_18)
@[simp] def b_digits_20 (_ : Unit) : EB := .loop (hid b_digits_19)
@[simp] def b_digits_21 (_ : Unit) : EB := .block 0 (hid b_digits_20)
@[simp] def l_digits_22 (_ : Unit) : List EOp := [xM 0 17 3, xM 1 2 17]
@[simp] def b_digits_23 (_ : Unit) : EB := reg0 (hid l_digits_22) 2
@[simp] def b_digits_24 (_ : Unit) : EB := .seq (hid b_digits_23) .ret
@[simp] def b_digits_25 (_ : Unit) : EB := .seq (hid b_digits_21) (hid b_digits_24)
@[simp] def b_digits_26 (_ : Unit) : EB := .seq (hid b_digits_4) (hid b_digits_25)
@[simp] def b_digits_27 (_ : Unit) : EB := .seq (hid b_digits_2) (hid b_digits_26)
def c_digits : EB × List QOp × Nat := ((hid b_digits_27), [(.mov (.t 2))], 18)
theorem k_digits : cfun Tryz.prog 173 = some c_digits := by kernel_rfl
@[simp] def l_own_1 (_ : Unit) : List EOp := [xQ 0 2 (.mov (.k (.slice none 0 0)))]
@[simp] def b_own_2 (_ : Unit) : EB := reg0 (hid l_own_1) 1
@[simp] def l_own_3 (_ : Unit) : List EOp := [xQ 0 3 (.mov (.k (.slice none 0 0)))]
@[simp] def b_own_4 (_ : Unit) : EB := reg0 (hid l_own_3) 1
@[simp] def l_own_5 (_ : Unit) : List EOp := [xM 0 4 3, xM 1 5 0, xO 2 6 (.app 5 1 1 (.t 4) (.t 5)), xM 3 2 6]
@[simp] def b_own_6 (_ : Unit) : EB := reg0 (hid l_own_5) 4
@[simp] def b_own_7 (_ : Unit) : EB := .seq (hid b_own_6) .ret
@[simp] def b_own_8 (_ : Unit) : EB := .seq (hid b_own_4) (hid b_own_7)
@[simp] def b_own_9 (_ : Unit) : EB := .seq (hid b_own_2) (hid b_own_8)
def c_own : EB × List QOp × Nat := ((hid b_own_9), [(.mov (.t 2))], 7)
theorem k_own : cfun Tryz.prog 174 = some c_own := by kernel_rfl
@[simp] def l_RUint_1 (_ : Unit) : List EOp := [xQ 0 4 (.mov (.k (.slice none 0 0)))]
@[simp] def b_RUint_2 (_ : Unit) : EB := reg0 (hid l_RUint_1) 1
@[simp] def l_RUint_3 (_ : Unit) : List EOp := [xM 0 6 1, xO 1 7 (.call 173 [(.t 6)]), xM 2 5 7]
@[simp] def b_RUint_4 (_ : Unit) : EB := reg0 (hid l_RUint_3) 3
@[simp] def l_RUint_6 (_ : Unit) : List EOp := [xO 6 14 (.app 5 1 1 (.t 9) (.t 13)), xM 7 15 5, xO 8 16 (.app 5 1 1 (.t 14) (.t 15)), xM 9 4 16]
@[simp] def l_RUint_5 (_ : Unit) : List EOp := xM 0 8 0 :: xO 1 9 (.call 174 [(.t 8)]) :: xM 2 10 5 :: xQ 3 11 (.len (.t 10)) :: xQ 4 12 (.cnv .u8 (.t 11)) :: xQ 5 13 (.bsl 1 [(.int .u8 0)] 1 [(0, (.t 12))]) :: hid l_RUint_6
@[simp] def b_RUint_7 (_ : Unit) : EB := reg0 (hid l_RUint_5) 10
@[simp] def b_RUint_8 (_ : Unit) : EB := .seq (hid b_RUint_7) .ret
@[simp] def b_RUint_9 (_ : Unit) : EB := .seq (hid b_RUint_4) (hid b_RUint_8)
@[simp] def b_RUint_10 (_ : Unit) : EB := .seq (hid b_RUint_2) (hid b_RUint_9)
def c_RUint : EB × List QOp × Nat := ((hid b_RUint_10), [(.mov (.t 4))], 17)
theorem k_RUint : cfun Tryz.prog 147 = some c_RUint := by kernel_rfl
@[simp] def l_RBytes_1 (_ : Unit) : List EOp := [xQ 0 4 (.mov (.k (.slice none 0 0)))]
@[simp] def b_RBytes_2 (_ : Unit) : EB := reg0 (hid l_RBytes_1) 1
@[simp] def l_RBytes_3 (_ : Unit) : List EOp := [xM 0 7 0, xO 1 8 (.call 174 [(.t 7)]), xM 2 5 8]
@[simp] def b_RBytes_4 (_ : Unit) : EB := reg0 (hid l_RBytes_3) 3
@[simp] def l_RBytes_5 (_ : Unit) : List EOp := [xQ 0 6 (.mov (.k (.int .i64 0)))]
@[simp] def b_RBytes_6 (_ : Unit) : EB := reg0 (hid l_RBytes_5) 1
@[simp] def l_RBytes_7 (_ : Unit) : List EOp := [xM 0 9 6, xM 1 10 1, xQ 2 11 (.len (.t 10)), xQ 3 12 (.bin .lss (.t 9) (.t 11))]
@[simp] def b_RBytes_8 (_ : Unit) : EB := reg0 (hid l_RBytes_7) 4
@[simp] def b_RBytes_9 (_ : Unit) : EB := .cond (.t 12) .skip (.exit 0)
@[simp] def b_RBytes_10 (_ : Unit) : EB := .seq (hid b_RBytes_8) (hid b_RBytes_9)
@[simp] def l_RBytes_12 (_ : Unit) : List EOp := [xO 6 21 (.app 5 1 1 (.t 15) (.t 20)), xM 7 5 21]
@[simp] def l_RBytes_11 (_ : Unit) : List EOp := xM 0 15 5 :: xM 1 16 1 :: xM 2 17 6 :: xQ 3 18 (.isl 1 (.t 16) (.t 17)) :: xQ 4 19 (.ldc (.t 18)) :: xQ 5 20 (.bsl 1 [(.int .u8 0)] 1 [(0, (.t 19))]) :: hid l_RBytes_12
@[simp] def b_RBytes_13 (_ : Unit) : EB := reg0 (hid l_RBytes_11) 8
@[simp] def l_RBytes_14 (_ : Unit) : List EOp := [xM 0 22 1, xM 1 23 6, xQ 2 24 (.isl 1 (.t 22) (.t 23)), xQ 3 25 (.ldc (.t 24)), xQ 4 26 (.bin .eql (.t 25) (.k (.int .u8 0)))]
@[simp] def b_RBytes_15 (_ : Unit) : EB := reg0 (hid l_RBytes_14) 5
@[simp] def l_RBytes_16 (_ : Unit) : List EOp := [xM 0 27 5, xQ 1 28 (.bsl 1 [(.int .u8 0)] 1 [(0, (.k (.int .u8 255)))]), xO 2 29 (.app 5 1 1 (.t 27) (.t 28)), xM 3 5 29]
@[simp] def b_RBytes_17 (_ : Unit) : EB := reg0 (hid l_RBytes_16) 4
@[simp] def b_RBytes_18 (_ : Unit) : EB := .cond (.t 26) (hid b_RBytes_17) .skip
@[simp] def b_RBytes_19 (_ : Unit) : EB := .seq (hid b_RBytes_15) (hid b_RBytes_18)
@[simp] def b_RBytes_20 (_ : Unit) : EB := .seq (hid b_RBytes_13) (hid b_RBytes_19)
@[simp] def b_RBytes_21 (_ : Unit) : EB := .block 1 (hid b_RBytes_20)
@[simp] def l_RBytes_22 (_ : Unit) : List EOp := [xM 0 13 6, xQ 1 14 (.bin .add (.t 13) (.k (.int .i64 1))), xM 2 6 14]
@[simp] def b_RBytes_23 (_ : Unit) : EB := reg0 (hid l_RBytes_22) 3
@[simp] def b_RBytes_24 (_ : Unit) : EB := .seq (hid b_RBytes_21) (hid b_RBytes_23)
@[simp] def b_RBytes_25 (_ : Unit) : EB := .seq (hid b_RBytes_10) (hid b_RBytes_24)
@[simp] def b_RBytes_26 (_ : Unit) : EB := .loop (hid b_RBytes_25)
@[simp] def b_RBytes_27 (_ : Unit) : EB := .block 0 (hid b_RBytes_26)
@[simp] def b_RBytes_28 (_ : Unit) : EB := .seq (hid b_RBytes_6) (hid b_RBytes_27)
@[simp] def l_RBytes_29 (_ : Unit) : List EOp := [xM 0 30 5, xQ 1 31 (.bsl 1 [(.int .u8 0)] 2 [(0, (.k (.int .u8 0))), (1, (.k (.int .u8 0)))]), xO 2 32 (.app 5 1 1 (.t 30) (.t 31)), xM 3 4 32]
@[simp] def b_RBytes_30 (_ : Unit) : EB := reg0 (hid l_RBytes_29) 4
@[simp] def b_RBytes_31 (_ : Unit) : EB := .seq (hid b_RBytes_30) .ret
@[simp] def b_RBytes_32 (_ : Unit) : EB := .seq (hid b_RBytes_28) (hid b_RBytes_31)
@[simp] def b_RBytes_33 (_ : Unit) : EB := .seq (hid b_RBytes_4) (hid b_RBytes_32)
@[simp] def b_RBytes_34 (_ : Unit) : EB := .seq (hid b_RBytes_2) (hid b_RBytes_33)
def c_RBytes : EB × List QOp × Nat := ((hid b_RBytes_34), [(.mov (.t 4))], 33)
theorem k_RBytes : cfun Tryz.prog 149 = some c_RBytes := by kernel_rfl
@[simp] def l_RHash_1 (_ : Unit) : List EOp := [xQ 0 3 (.box 23 (.t 1)), xQ 1 4 (.mov (.k (.slice none 0 0)))]
@[simp] def b_RHash_2 (_ : Unit) : EB := reg0 (hid l_RHash_1) 2
@[simp] def l_RHash_3 (_ : Unit) : List EOp := [xM 0 5 0, xQ 2 7 (.sar 32 (.t 3) none none), ⟨1, (some 6), none, (.call 174 [(.t 5)]), [2]⟩, xO 3 8 (.app 5 1 1 (.t 6) (.t 7)), xM 4 4 8]
@[simp] def b_RHash_4 (_ : Unit) : EB := reg1 (hid l_RHash_3) 5
@[simp] def b_RHash_5 (_ : Unit) : EB := .seq (hid b_RHash_4) .ret
@[simp] def b_RHash_6 (_ : Unit) : EB := .seq (hid b_RHash_2) (hid b_RHash_5)
def c_RHash : EB × List QOp × Nat := ((hid b_RHash_6), [(.mov (.t 4))], 9)
theorem k_RHash : cfun Tryz.prog 148 = some c_RHash := by kernel_rfl
theorem digits_ok (n : Nat) (h : n < 18446744073709551616) : ECalls Tryz.prog 173 [I .u64 n] [] fun y H' => H' = [some (RO (dg n))] ∧ y = R 0 (dg n) := by
  refine ecalls k_digits ?_
  simp [c_digits, I]
  refine loopW _ (weak_nilR 3 5 1 rfl (by omega)) ?_
  refine eloop (α := Nat × List UInt8) (fun a => a.1 < 18446744073709551616 ∧ a.2.length ≤ 8 ∧ dg a.1 ++ a.2 = dg n) (fun a => a.1)
    (fun a => [I .u64 a.1, .any, .any, R 0 a.2, .any, .any, .any, .any, .any, .any, .any, .any, .any, .any, .any, .any, .any, .any]) (fun a => [some (RO a.2)]) (n, []) [32] ⟨h, by simp, by simp⟩ (by simp [R, I]) (by simp [RO]) (by simp) (by simp) (by simp) ?_
  rintro ⟨k, ds⟩ ⟨hk, hdl, hds⟩
  simp [I, R, RO] at hk hdl hds ⊢
  refine alt (fun hp => ?_) (fun hp => ?_)
  · have h8 := nb_8 h
    have hst := dg_step (n := k) (by omega)
    have hl := congrArg List.length hds
    rw [hst] at hds hl
    simp [dg_len] at hl
    have w1 : IntKind.u8.wrap ((k : Int).tmod 256) = ((b8 k).toNat : Int) := by
      rw [Int.tmod_eq_emod_of_nonneg (by omega), IntKind.wrap_u8, b8_nat]; omega
    have w2 : IntKind.u64.wrap ((k : Int) / 256) = ((k / 256 : Nat) : Int) := by
      rw [wrap_u64 (by omega) (by omega)]; rfl
    simp [w1, w2, -Int.natCast_ediv]
    exact ⟨by omega, round (k / 256, b8 k :: ds) [161] ⟨by simp; omega, by simp; omega, by simpa using hds⟩ (by simp; omega) (by simp; omega) (by simp [bsv, cb]) (by simp) (by simp) (by simp)⟩
  · have : k = 0 := by omega
    subst this
    simp [dg_zero] at hds
    subst hds
    simp
    exact fin [0] (by decide) rfl rfl rfl ⟨rfl, rfl⟩
theorem own_ok (b : List UInt8) (hb : b.length ≤ 1000000000) : ECalls Tryz.prog 174 [Bs b] [] fun y H' => H' = [some (RO b)] ∧ y = R 0 b := by
  refine ecalls k_own ?_
  simp [c_own, Bs]
  exact ⟨by omega, fin [64] (by decide) rfl rfl rfl ⟨rfl, rfl⟩⟩
theorem RUint_ok (b : List UInt8) (n : Nat) (h : n < 18446744073709551616) (hb : b.length ≤ 900000000) : ECalls Tryz.prog 147 [Bs b, I .u64 n] [] fun y H' => H' = [some (RO (b ++ uintB n))] ∧ y = R 0 (b ++ uintB n) := by
  have h8 := nb_8 h
  refine ecalls k_RUint ?_
  simp [c_RUint, I, Bs]
  refine call0 (digits_ok n h) rfl ?_
  rintro y H' ⟨rfl, rfl⟩
  refine ⟨.inl rfl, le_ok rfl, ?_⟩
  simp [R, RO]
  refine call0 (own_ok b (by omega)) rfl ?_
  rintro y H' ⟨rfl, rfl⟩
  refine ⟨.inl rfl, le_ok rfl, ?_⟩
  simp [R, RO]
  exact ⟨by omega, by simp [dg_len]; omega, fin [192] (by decide) rfl rfl rfl ⟨by simp [uintB, dg_len, wrap_u8_nat, bsv, cb], by simp [uintB]; omega⟩⟩
theorem RBytes_ok (b l : List UInt8) (hb : b.length ≤ 900000000) (hl : l.length ≤ 10000000) : ECalls Tryz.prog 149 [Bs b, Bs l] [] fun y H' => H' = [some (RO (b ++ bytesB l))] ∧ y = R 0 (b ++ bytesB l) := by
  refine ecalls k_RBytes ?_
  simp [c_RBytes, Bs]
  refine call0 (own_ok b (by omega)) rfl ?_
  rintro y H' ⟨rfl, rfl⟩
  refine ⟨.inl rfl, le_ok rfl, ?_⟩
  simp [R, RO]
  refine eloop (α := Nat) (fun i => i ≤ l.length) (fun i => l.length - i)
    (fun i => [.any, Bs l, .any, .any, .any, R 0 (b ++ stuffB (l.take i)), I .i64 i, .any, .any, .any, .any, .any, .any, .any, .any, .any, .any, .any, .any, .any, .any, .any, .any, .any, .any, .any, .any, .any, .any, .any, .any, .any, .any]) (fun i => [some (RO (b ++ stuffB (l.take i)))]) 0 [32]
    (Nat.zero_le _) (by simp [Bs, I, R, stuffB]) (by simp [RO, stuffB]) (by simp) (by simp) (by simp) ?_
  intro i hi
  have hle := stuff_len (l.take i)
  have hlt : (l.take i).length = i := by simp; omega
  simp [I, Bs, R, RO]
  refine alt (fun hp => ?_) (fun hp => ?_)
  · obtain ⟨c, hc⟩ : ∃ c, l[i]? = some c := ⟨l[i], by simp [hp]⟩
    have hcb : (bsv l)[i]? = some (cb c) := by simp [bsv, hc]
    have hts := take_snoc hc
    have w1 : IntKind.i64.wrap ((i : Int) + 1) = ((i + 1 : Nat) : Int) := wrap_i64 (by omega) (by omega)
    simp [hcb, cb]
    refine ⟨by omega, alt (fun hz => ?_) (fun hz => ?_)⟩
    · have hc0 : c = 0 := by apply UInt8.toNat_inj.1; simpa using hz
      have hst : stuffB (l.take (i + 1)) = stuffB (l.take i) ++ [0, 255] := by rw [hts, stuff_snoc, if_pos hc0]
      simp [w1, -Int.natCast_add]
      refine ⟨by omega, round (i + 1) [305] (by omega) (by omega) ?_ ?_ (by simp) (by simp) (by simp)⟩
      · simp [hst]; omega
      · subst hc0; simp [hst, bsv, cb]
    · have hc0 : c ≠ 0 := by rintro rfl; exact hz rfl
      have hst : stuffB (l.take (i + 1)) = stuffB (l.take i) ++ [c] := by rw [hts, stuff_snoc, if_neg hc0]
      simp [w1, -Int.natCast_add]
      refine round (i + 1) [161] (by omega) (by omega) ?_ ?_ (by simp) (by simp) (by simp)
      · simp [hst]; omega
      · simp [hst, bsv, cb]
  · have hil : i = l.length := by omega
    subst hil
    simp at hle
    simp
    exact ⟨by omega, fin [97] (by decide) rfl rfl rfl ⟨by simp [bytesB, bsv, cb], by simp [bytesB]; omega⟩⟩
theorem RHash_ok (b h : List UInt8) (hb : b.length ≤ 900000000) (hl : h.length = 32) : ECalls Tryz.prog 148 [Bs b, Ag h] [] fun y H' => H' = [some (RO (b ++ h))] ∧ y = R 0 (b ++ h) := by
  refine ecalls k_RHash ?_
  have ht : h.take 32 = h := List.take_of_length_le (by omega)
  simp [c_RHash, Bs, Ag, ht]
  refine call0 (own_ok b (by omega)) rfl ?_
  rintro y H' ⟨rfl, rfl⟩
  refine ⟨.inl rfl, le_ok rfl, ?_⟩
  simp [R, RO, ht]
  exact ⟨by omega, by omega, fin [80] (by decide) rfl rfl rfl ⟨by simp, by simp⟩⟩
end Go.Proofs.YtflcfdeanneoeaaGreatDoor
namespace Go.Proofs.YtflcfdeanneoeaaGreatDoor
open Go Go.EW
set_option linter.unusedSimpArgs false
set_option linter.unusedVariables false
theorem RUint_nil (n : Nat) (h : n < 18446744073709551616) : ECalls Tryz.prog 147 [.v (.c (.fz (.lit (.slice none 0 0)))), I .u64 n] [] fun y H' => H' = [some (RO (uintB n))] ∧ y = R 0 (uintB n) := ecalls_nil (es := 1) (RUint_ok [] n h (by simp))
theorem uB_eq (n : Int) : uintB (u64n n) = uB n := rfl
end Go.Proofs.YtflcfdeanneoeaaGreatDoor
namespace Go.Proofs.YtflcfdeanneoeaaGreatDoor
open Go Go.EW
set_option linter.unusedSimpArgs false
set_option linter.unusedVariables false
end Go.Proofs.YtflcfdeanneoeaaGreatDoor
namespace Go.Proofs.YtflcfdeanneoeaaGreatDoor
open Go Go.EW
set_option linter.unusedSimpArgs false
set_option linter.unusedVariables false
@[simp] def l_longState_1 (_ : Unit) : List EOp := [xQ 0 1 (.box 32 (.t 0)), xQ 1 2 (.mov (.k (.bool false)))]
@[simp] def b_longState_2 (_ : Unit) : EB := reg0 (hid l_longState_1) 2
@[simp] def l_longState_4 (_ : Unit) : List EOp := [xQ 6 11 (.bin .add (.t 7) (.t 10)), xM 7 3 11]
@[simp] def l_longState_3 (_ : Unit) : List EOp := xQ 0 5 (.fad 3 (.t 1)) :: xQ 1 6 (.ldc (.t 5)) :: xQ 2 7 (.len (.t 6)) :: xQ 3 8 (.fad 4 (.t 1)) :: xQ 4 9 (.ldc (.t 8)) :: xQ 5 10 (.len (.t 9)) :: hid l_longState_4
@[simp] def b_longState_5 (_ : Unit) : EB := reg0 (hid l_longState_3) 8
@[simp] def l_longState_6 (_ : Unit) : List EOp := [xM 0 12 3, xQ 1 13 (.bin .gtr (.t 12) (.k (.int .i64 100)))]
@[simp] def b_longState_7 (_ : Unit) : EB := reg0 (hid l_longState_6) 2
@[simp] def l_longState_8 (_ : Unit) : List EOp := [xQ 0 2 (.mov (.k (.bool true)))]
@[simp] def b_longState_9 (_ : Unit) : EB := reg0 (hid l_longState_8) 1
@[simp] def b_longState_10 (_ : Unit) : EB := .seq (hid b_longState_9) .ret
@[simp] def b_longState_11 (_ : Unit) : EB := .cond (.t 13) (hid b_longState_10) .skip
@[simp] def b_longState_12 (_ : Unit) : EB := .seq (hid b_longState_7) (hid b_longState_11)
@[simp] def l_longState_13 (_ : Unit) : List EOp := [xQ 0 4 (.mov (.k (.int .i64 0)))]
@[simp] def b_longState_14 (_ : Unit) : EB := reg0 (hid l_longState_13) 1
@[simp] def l_longState_15 (_ : Unit) : List EOp := [xM 0 14 4, xQ 1 15 (.fad 4 (.t 1)), xQ 2 16 (.ldc (.t 15)), xQ 3 17 (.len (.t 16)), xQ 4 18 (.bin .lss (.t 14) (.t 17))]
@[simp] def b_longState_16 (_ : Unit) : EB := reg0 (hid l_longState_15) 5
@[simp] def b_longState_17 (_ : Unit) : EB := .cond (.t 18) .skip (.exit 0)
@[simp] def b_longState_18 (_ : Unit) : EB := .seq (hid b_longState_16) (hid b_longState_17)
@[simp] def l_longState_20 (_ : Unit) : List EOp := [xQ 6 27 (.ldc (.t 26)), xQ 7 28 (.len (.t 27)), xQ 8 29 (.bin .add (.t 21) (.t 28)), xM 9 3 29]
@[simp] def l_longState_19 (_ : Unit) : List EOp := xM 0 21 3 :: xQ 1 22 (.fad 4 (.t 1)) :: xQ 2 23 (.ldc (.t 22)) :: xM 3 24 4 :: xQ 4 25 (.isl 3 (.t 23) (.t 24)) :: xQ 5 26 (.fad 2 (.t 25)) :: hid l_longState_20
@[simp] def b_longState_21 (_ : Unit) : EB := reg0 (hid l_longState_19) 10
@[simp] def b_longState_22 (_ : Unit) : EB := .block 1 (hid b_longState_21)
@[simp] def l_longState_23 (_ : Unit) : List EOp := [xM 0 19 4, xQ 1 20 (.bin .add (.t 19) (.k (.int .i64 1))), xM 2 4 20]
@[simp] def b_longState_24 (_ : Unit) : EB := reg0 (hid l_longState_23) 3
@[simp] def b_longState_25 (_ : Unit) : EB := .seq (hid b_longState_22) (hid b_longState_24)
@[simp] def b_longState_26 (_ : Unit) : EB := .seq (hid b_longState_18) (hid b_longState_25)
@[simp] def b_longState_27 (_ : Unit) : EB := .loop (hid b_longState_26)
@[simp] def b_longState_28 (_ : Unit) : EB := .block 0 (hid b_longState_27)
@[simp] def b_longState_29 (_ : Unit) : EB := .seq (hid b_longState_14) (hid b_longState_28)
@[simp] def l_longState_30 (_ : Unit) : List EOp := [xM 0 30 3, xQ 1 31 (.bin .gtr (.t 30) (.k (.int .i64 300))), xM 2 2 31]
@[simp] def b_longState_31 (_ : Unit) : EB := reg0 (hid l_longState_30) 3
@[simp] def b_longState_32 (_ : Unit) : EB := .seq (hid b_longState_31) .ret
@[simp] def b_longState_33 (_ : Unit) : EB := .seq (hid b_longState_29) (hid b_longState_32)
@[simp] def b_longState_34 (_ : Unit) : EB := .seq (hid b_longState_12) (hid b_longState_33)
@[simp] def b_longState_35 (_ : Unit) : EB := .seq (hid b_longState_5) (hid b_longState_34)
@[simp] def b_longState_36 (_ : Unit) : EB := .seq (hid b_longState_2) (hid b_longState_35)
def c_longState : EB × List QOp × Nat := ((hid b_longState_36), [(.mov (.t 2))], 32)
theorem k_longState : cfun Tryz.prog 11 = some c_longState := by kernel_rfl
def sumK (l : List Hol) : Nat := (l.map (·.keys.length)).sum
theorem sumK_snoc (l : List Hol) (h : Hol) : sumK (l ++ [h]) = sumK l + h.keys.length := by simp [sumK]
theorem sumK_le : ∀ {l : List Hol}, (∀ h ∈ l, h.keys.length ≤ 100000000) → sumK l ≤ 100000000 * l.length
  | [], _ => by simp [sumK]
  | h :: r, q => by
    have h1 := q h (by simp)
    have h2 := sumK_le (l := r) (fun y hy => q y (by simp [hy]))
    simp [sumK] at *; omega
theorem sumK_mem : ∀ {l : List Hol} {h : Hol}, h ∈ l → h.keys.length ≤ sumK l
  | x :: r, h, q => by
    rcases List.mem_cons.1 q with rfl | q
    · simp [sumK]
    · have := sumK_mem q
      simp [sumK] at *; omega
def longS (s : Sta) : Bool := decide (100 < s.pays.length + s.holds.length ∨ 300 < s.pays.length + s.holds.length + sumK s.holds)
theorem longS_small {s : Sta} (h : longS s = false) : s.small ∧ s.pays.length ≤ 100 ∧ s.holds.length ≤ 100 ∧ ∀ h ∈ s.holds, h.keys.length ≤ 300 := by
  have h' := of_decide_eq_false h
  refine ⟨⟨by omega, by omega, fun x hx => ?_⟩, by omega, by omega, fun x hx => ?_⟩ <;>
  · have := sumK_mem hx
    omega
set_option maxHeartbeats 2000000 in
theorem longState_ok (s : Sta) (hs : s.ok) : ECalls Tryz.prog 11 [SV s] [] fun y H' => H' = [] ∧ y = .lit (.bool (longS s)) := by
  obtain ⟨ok1, ok2, ok3, ok4, ok5, ok6, ok7⟩ := id hs
  have w0 : IntKind.i64.wrap ((s.pays.length : Int) + (s.holds.length : Int)) = ((s.pays.length + s.holds.length : Nat) : Int) := by rw [wrap_i64 (by omega) (by omega)]; simp
  refine ecalls k_longState ?_
  simp [c_longState, SV, staC, w0, -Int.natCast_add]
  refine alt (fun hlt => ?_) (fun hlt => ?_)
  · simp
    have : longS s = true := by unfold longS; exact decide_eq_true (.inl (by omega))
    exact fin [] (by decide) rfl rfl rfl ⟨rfl, by simp [this]⟩
  simp [-Int.natCast_add]
  refine eloop (α := Nat) (fun i => i ≤ s.holds.length) (fun i => s.holds.length - i)
    (fun i => [.any, Ptr 0, .any, I .i64 ((s.pays.length + s.holds.length + sumK (s.holds.take i) : Nat) : Int), I .i64 i, .any, .any, .any, .any, .any, .any, .any, .any, .any, .any, .any, .any, .any, .any, .any, .any, .any, .any, .any, .any, .any, .any, .any, .any, .any, .any, .any]) (fun i => [some (.box 32 (staC s))]) 0 [0]
    (Nat.zero_le _) (by simp [Ptr, I, sumK]) (by simp [staC]) (by simp) (by simp) (by simp) ?_
  intro i hi
  have hlk := sumK_le (l := s.holds.take i) (fun h hh => (ok5 h (List.mem_of_mem_take hh)).2.2.2)
  have hlt' : (s.holds.take i).length = i := by simp; omega
  simp [Ptr, I, staC, -Int.natCast_add]
  refine alt (fun hlt => ?_) (fun hlt => ?_)
  · obtain ⟨p, hc⟩ : ∃ p, s.holds[i]? = some p := ⟨s.holds[i], by simp [hlt]⟩
    have hcb := holv_get hc
    have hk := (ok5 p (List.mem_of_getElem? hc)).2.2.2
    have hts : sumK (s.holds.take (i + 1)) = sumK (s.holds.take i) + p.keys.length := by rw [take_s hc, sumK_snoc]
    have w2 : IntKind.i64.wrap ((i : Int) + 1) = ((i + 1 : Nat) : Int) := wrap_i64 (by omega) (by omega)
    have w3 : IntKind.i64.wrap (((s.pays.length + s.holds.length + sumK (s.holds.take i) : Nat) : Int) + (p.keys.length : Int)) = ((s.pays.length + s.holds.length + sumK (s.holds.take (i + 1)) : Nat) : Int) := by
      rw [wrap_i64 (by omega) (by omega), hts]; simp; omega
    simp [hcb, holF, w2, w3, -Int.natCast_add]
    exact round (i + 1) [0] (by omega) (by omega) (by simp) (by simp) (by simp) (by simp) (by simp)
  have hil : i = s.holds.length := by omega
  subst hil
  rw [List.take_length] at *
  simp [-Int.natCast_add]
  exact fin [] (by decide) rfl rfl rfl ⟨rfl, by
    have : longS s = decide (300 < ((s.pays.length + s.holds.length + sumK s.holds : Nat) : Int)) := decide_eq_decide.2 (by omega)
    simp [this]⟩
end Go.Proofs.YtflcfdeanneoeaaGreatDoor
namespace Go.Proofs.YtflcfdeanneoeaaGreatDoor
open Go Go.EW
set_option linter.unusedSimpArgs false
set_option linter.unusedVariables false
@[simp] def l_giveState_1 (_ : Unit) : List EOp := [xQ 0 1 (.box 32 (.t 0)), xQ 1 2 (.alloc 47 [(.int .i64 0), (.int .i64 0), (.int .i64 0), (.slice none 0 0), (.slice none 0 0)])]
@[simp] def b_giveState_2 (_ : Unit) : EB := reg0 (hid l_giveState_1) 2
@[simp] def l_giveState_4 (_ : Unit) : List EOp := [xN 6 (.fz (.sto 5 (.t 3) (.t 11)))]
@[simp] def l_giveState_3 (_ : Unit) : List EOp := xQ 0 7 (.fad 0 (.t 1)) :: xQ 1 8 (.ldc (.t 7)) :: xQ 2 9 (.fad 1 (.t 1)) :: xQ 3 10 (.lda 2 (.t 9)) :: xQ 4 11 (.build [(.int .i64 0), (.int .i64 0), (.int .i64 0), (.slice none 0 0), (.slice none 0 0)] [(0, 1, (.t 8)), (1, 2, (.t 10))]) :: xQ 5 3 (.alloc 47 [(.int .i64 0), (.int .i64 0), (.int .i64 0), (.slice none 0 0), (.slice none 0 0)]) :: hid l_giveState_4
@[simp] def b_giveState_5 (_ : Unit) : EB := reg0 (hid l_giveState_3) 7
@[simp] def l_giveState_6 (_ : Unit) : List EOp := [xQ 0 4 (.mov (.k (.int .i64 0)))]
@[simp] def b_giveState_7 (_ : Unit) : EB := reg0 (hid l_giveState_6) 1
@[simp] def l_giveState_8 (_ : Unit) : List EOp := [xM 0 12 4, xQ 1 13 (.fad 3 (.t 1)), xQ 2 14 (.ldc (.t 13)), xQ 3 15 (.len (.t 14)), xQ 4 16 (.bin .lss (.t 12) (.t 15))]
@[simp] def b_giveState_9 (_ : Unit) : EB := reg0 (hid l_giveState_8) 5
@[simp] def b_giveState_10 (_ : Unit) : EB := .cond (.t 16) .skip (.exit 0)
@[simp] def b_giveState_11 (_ : Unit) : EB := .seq (hid b_giveState_9) (hid b_giveState_10)
@[simp] def l_giveState_13 (_ : Unit) : List EOp := [xQ 6 25 (.lda 36 (.t 24)), xQ 7 26 (.bsl 36 (([(.int .i64 0), (.int .i64 0), (.int .i64 0), (.int .i64 0)] : List Value) ++ zU8) 1 [(0, (.t 25))]), xO 8 27 (.app 126 36 64 (.t 20) (.t 26)), xQ 9 28 (.fad 3 (.t 3)), xN 10 (.fz (.sto 1 (.t 28) (.t 27)))]
@[simp] def l_giveState_12 (_ : Unit) : List EOp := xQ 0 19 (.fad 3 (.t 3)) :: xQ 1 20 (.ldc (.t 19)) :: xQ 2 21 (.fad 3 (.t 1)) :: xQ 3 22 (.ldc (.t 21)) :: xM 4 23 4 :: xQ 5 24 (.isl 36 (.t 22) (.t 23)) :: hid l_giveState_13
@[simp] def b_giveState_14 (_ : Unit) : EB := reg0 (hid l_giveState_12) 11
@[simp] def b_giveState_15 (_ : Unit) : EB := .block 1 (hid b_giveState_14)
@[simp] def l_giveState_16 (_ : Unit) : List EOp := [xM 0 17 4, xQ 1 18 (.bin .add (.t 17) (.k (.int .i64 1))), xM 2 4 18]
@[simp] def b_giveState_17 (_ : Unit) : EB := reg0 (hid l_giveState_16) 3
@[simp] def b_giveState_18 (_ : Unit) : EB := .seq (hid b_giveState_15) (hid b_giveState_17)
@[simp] def b_giveState_19 (_ : Unit) : EB := .seq (hid b_giveState_11) (hid b_giveState_18)
@[simp] def b_giveState_20 (_ : Unit) : EB := .loop (hid b_giveState_19)
@[simp] def b_giveState_21 (_ : Unit) : EB := .block 0 (hid b_giveState_20)
@[simp] def b_giveState_22 (_ : Unit) : EB := .seq (hid b_giveState_7) (hid b_giveState_21)
@[simp] def l_giveState_23 (_ : Unit) : List EOp := [xQ 0 5 (.mov (.k (.int .i64 0)))]
@[simp] def b_giveState_24 (_ : Unit) : EB := reg0 (hid l_giveState_23) 1
@[simp] def l_giveState_25 (_ : Unit) : List EOp := [xM 0 29 5, xQ 1 30 (.fad 4 (.t 1)), xQ 2 31 (.ldc (.t 30)), xQ 3 32 (.len (.t 31)), xQ 4 33 (.bin .lss (.t 29) (.t 32))]
@[simp] def b_giveState_26 (_ : Unit) : EB := reg0 (hid l_giveState_25) 5
@[simp] def b_giveState_27 (_ : Unit) : EB := .cond (.t 33) .skip (.exit 2)
@[simp] def b_giveState_28 (_ : Unit) : EB := .seq (hid b_giveState_26) (hid b_giveState_27)
@[simp] def l_giveState_29 (_ : Unit) : List EOp := [xQ 0 6 (.mov (.k (.slice none 0 0)))]
@[simp] def b_giveState_30 (_ : Unit) : EB := reg0 (hid l_giveState_29) 1
@[simp] def l_giveState_35 (_ : Unit) : List EOp := [xO 24 60 (.app 128 3 40 (.t 37) (.t 59)), xQ 25 61 (.fad 4 (.t 3)), xN 26 (.fz (.sto 1 (.t 61) (.t 60)))]
@[simp] def l_giveState_34 (_ : Unit) : List EOp := xQ 18 54 (.isl 3 (.t 52) (.t 53)) :: xQ 19 55 (.fad 2 (.t 54)) :: xQ 20 56 (.ldc (.t 55)) :: ⟨21, (some 57), none, (.app 3 1 8 (.t 50) (.t 56)), [0, 1, 2, 3, 4, 5, 6, 7, 8, 9, 10, 11, 12, 13]⟩ :: xQ 22 58 (.build [(.int .i64 0), (.int .i64 0), (.slice none 0 0)] [(0, 1, (.t 43)), (1, 1, (.t 49)), (2, 1, (.t 57))]) :: ⟨23, (some 59), none, (.fz (.q (.bsl 3 [(.int .i64 0), (.int .i64 0), (.slice none 0 0)] 1 [(0, (.t 58))]))), [0, 1]⟩ :: hid l_giveState_35
@[simp] def l_giveState_33 (_ : Unit) : List EOp := xQ 12 48 (.fad 1 (.t 47)) :: xQ 13 49 (.ldc (.t 48)) :: xM 14 50 6 :: xQ 15 51 (.fad 4 (.t 1)) :: xQ 16 52 (.ldc (.t 51)) :: xM 17 53 5 :: hid l_giveState_34
@[simp] def l_giveState_32 (_ : Unit) : List EOp := xQ 6 42 (.fad 0 (.t 41)) :: xQ 7 43 (.ldc (.t 42)) :: xQ 8 44 (.fad 4 (.t 1)) :: xQ 9 45 (.ldc (.t 44)) :: xM 10 46 5 :: xQ 11 47 (.isl 3 (.t 45) (.t 46)) :: hid l_giveState_33
@[simp] def l_giveState_31 (_ : Unit) : List EOp := xQ 0 36 (.fad 4 (.t 3)) :: xQ 1 37 (.ldc (.t 36)) :: xQ 2 38 (.fad 4 (.t 1)) :: xQ 3 39 (.ldc (.t 38)) :: xM 4 40 5 :: xQ 5 41 (.isl 3 (.t 39) (.t 40)) :: hid l_giveState_32
@[simp] def b_giveState_36 (_ : Unit) : EB := reg1 (hid l_giveState_31) 27
@[simp] def b_giveState_37 (_ : Unit) : EB := .seq (hid b_giveState_30) (hid b_giveState_36)
@[simp] def b_giveState_38 (_ : Unit) : EB := .block 3 (hid b_giveState_37)
@[simp] def l_giveState_39 (_ : Unit) : List EOp := [xM 0 34 5, xQ 1 35 (.bin .add (.t 34) (.k (.int .i64 1))), xM 2 5 35]
@[simp] def b_giveState_40 (_ : Unit) : EB := reg0 (hid l_giveState_39) 3
@[simp] def b_giveState_41 (_ : Unit) : EB := .seq (hid b_giveState_38) (hid b_giveState_40)
@[simp] def b_giveState_42 (_ : Unit) : EB := .seq (hid b_giveState_28) (hid b_giveState_41)
@[simp] def b_giveState_43 (_ : Unit) : EB := .loop (hid b_giveState_42)
@[simp] def b_giveState_44 (_ : Unit) : EB := .block 2 (hid b_giveState_43)
@[simp] def b_giveState_45 (_ : Unit) : EB := .seq (hid b_giveState_24) (hid b_giveState_44)
@[simp] def l_giveState_46 (_ : Unit) : List EOp := [xQ 0 62 (.lda 5 (.t 3)), xN 1 (.fz (.sto 5 (.t 2) (.t 62)))]
@[simp] def b_giveState_47 (_ : Unit) : EB := reg0 (hid l_giveState_46) 2
@[simp] def b_giveState_48 (_ : Unit) : EB := .seq (hid b_giveState_47) .ret
@[simp] def b_giveState_49 (_ : Unit) : EB := .seq (hid b_giveState_45) (hid b_giveState_48)
@[simp] def b_giveState_50 (_ : Unit) : EB := .seq (hid b_giveState_22) (hid b_giveState_49)
@[simp] def b_giveState_51 (_ : Unit) : EB := .seq (hid b_giveState_5) (hid b_giveState_50)
@[simp] def b_giveState_52 (_ : Unit) : EB := .seq (hid b_giveState_2) (hid b_giveState_51)
def c_giveState : EB × List QOp × Nat := ((hid b_giveState_52), [(.lda 5 (.t 2))], 63)
theorem k_giveState : cfun Tryz.prog 15 = some c_giveState := by kernel_rfl
def zC : List EC := [.fz (.lit (.int .i64 0)), .fz (.lit (.int .i64 0)), .fz (.lit (.int .i64 0)), .fz (.lit (.slice none 0 0)), .fz (.lit (.slice none 0 0))]
def gC (s : Sta) (a b : EC) : List EC := [.fz (.lit (.int .i64 s.num)), .fz (.lit (.int .i64 s.h0)), .fz (.lit (.int .i64 s.h1)), a, b]
set_option maxHeartbeats 2000000 in
theorem giveState_ok (s : Sta) (hs : s.ok) (hm : s.small) : ECalls Tryz.prog 15 [SV s] [] fun y H' => H' = [] ∧ y = SV s := by
  obtain ⟨ok1, ok2, ok3, ok4, ok5, ok6, ok7⟩ := id hs
  obtain ⟨m1, m2, m3⟩ := hm
  refine ecalls k_giveState ?_
  simp [c_giveState, SV, staC]
  refine loopW _ (weak_nil (o := 112) (k := 3) (ty := 126) (es := 36) rfl rfl (by omega)) ?_
  refine loopW _ (weak_nil (o := 112) (k := 4) (ty := 128) (es := 3) rfl rfl (by omega)) ?_
  refine eloop (α := Nat) (fun i => i ≤ s.pays.length) (fun i => s.pays.length - i)
    (fun i => [.any, Ptr 0, Ptr 1, Ptr 2, I .i64 i, .any, .any, .any, .any, .any, .any, .any, .any, .any, .any, .any, .any, .any, .any, .any, .any, .any, .any, .any, .any, .any, .any, .any, .any, .any, .any, .any, .any, .any, .any, .any, .any, .any, .any, .any, .any, .any, .any, .any, .any, .any, .any, .any, .any, .any, .any, .any, .any, .any, .any, .any, .any, .any, .any, .any, .any, .any, .any]) (fun i => [some (.box 32 (staC s)), some (.box 47 zC), some (.box 47 (gC s (.row 3 i) (.row 4 0))), some (.row 126 36 (payv (s.pays.take i))), some (.row 128 3 [])]) 0 [0, 16, 112, 160, 161]
    (Nat.zero_le _) (by simp [Ptr, I]) (by simp [zC, gC, staC, payv]) (by simp) (by simp) (by simp) ?_
  intro i hi
  simp [Ptr, I, staC, zC, gC]
  refine alt (fun hlt => ?_) (fun hlt => ?_)
  · obtain ⟨p, hc⟩ : ∃ p, s.pays[i]? = some p := ⟨s.pays[i], by simp [hlt]⟩
    have hpo := ok4 p (List.mem_of_getElem? hc)
    have hl32 := hpo.2.2.2.2
    have ht : p.lock.take 32 = p.lock := List.take_of_length_le (by omega)
    have hcb := payv_get hc
    have w2 : IntKind.i64.wrap ((i : Int) + 1) = ((i + 1 : Nat) : Int) := wrap_i64 (by omega) (by omega)
    have e2 : payv (s.pays.take (i + 1)) = payv (s.pays.take i) ++ [payF p] := by rw [take_s hc]; simp [payv]
    have hm0 : min i s.pays.length = i := by omega
    simp [hcb, payF, hl32, ht, w2, hm0, -Int.natCast_add]
    refine ⟨by omega, ?_⟩
    exact round (i + 1) [0, 1, 2, 213, 4] (by omega) (by omega) (by simp) (by simp [e2, payF]) (by simp) (by simp) (by simp)
  have hil : i = s.pays.length := by omega
  subst hil
  rw [List.take_length]
  simp
  refine eloop (α := Nat) (fun i => i ≤ s.holds.length) (fun i => s.holds.length - i)
    (fun i => [.any, Ptr 0, Ptr 1, Ptr 2, .any, I .i64 i, .any, .any, .any, .any, .any, .any, .any, .any, .any, .any, .any, .any, .any, .any, .any, .any, .any, .any, .any, .any, .any, .any, .any, .any, .any, .any, .any, .any, .any, .any, .any, .any, .any, .any, .any, .any, .any, .any, .any, .any, .any, .any, .any, .any, .any, .any, .any, .any, .any, .any, .any, .any, .any, .any, .any, .any, .any]) (fun i => [some (.box 32 (staC s)), some (.box 47 zC), some (.box 47 (gC s (.row 3 s.pays.length) (.row 4 i))), some (.row 126 36 (payv s.pays)), some (.row 128 3 (holv (s.holds.take i)))]) 0 [0, 1, 2, 3, 4]
    (Nat.zero_le _) (by simp [Ptr, I]) (by simp [zC, gC, staC, holv]) (by simp) (by simp) (by simp) ?_
  intro i hi
  simp [Ptr, I, staC, zC, gC]
  refine alt (fun hlt => ?_) (fun hlt => ?_)
  · obtain ⟨p, hc⟩ : ∃ p, s.holds[i]? = some p := ⟨s.holds[i], by simp [hlt]⟩
    have hk := m3 p (List.mem_of_getElem? hc)
    have hcb := holv_get hc
    have w2 : IntKind.i64.wrap ((i : Int) + 1) = ((i + 1 : Nat) : Int) := wrap_i64 (by omega) (by omega)
    have e2 : holv (s.holds.take (i + 1)) = holv (s.holds.take i) ++ [holF p] := by rw [take_s hc]; simp [holv]
    have hm0 : min i s.holds.length = i := by omega
    simp [hcb, holF, w2, hm0, -Int.natCast_add]
    refine ⟨⟨by omega, by omega⟩, ⟨by omega, by omega⟩, ?_⟩
    exact round (i + 1) [0, 1, 2, 3, 485] (by omega) (by omega) (by simp) (by simp [e2, holF, List.take_of_length_le]) (by simp) (by simp) (by simp)
  have hil : i = s.holds.length := by omega
  subst hil
  rw [List.take_length]
  simp
  refine finW _ (weak_frz (o := 3) (ty := 126) (es := 36) (xs := payv s.pays) rfl) ?_
  refine finW _ (weak_frz (o := 4) (ty := 128) (es := 3) (xs := holv s.holds) rfl) ?_
  exact fin [] (by decide) rfl rfl rfl ⟨rfl, by simp [List.take_of_length_le]⟩
end Go.Proofs.YtflcfdeanneoeaaGreatDoor
namespace Go.Proofs.YtflcfdeanneoeaaGreatDoor
open Go Go.EW
set_option linter.unusedSimpArgs false
set_option linter.unusedVariables false
@[simp] def l_RPlaces_1 (_ : Unit) : List EOp := [xQ 0 3 (.box 28 (.t 0)), xQ 1 4 (.box 32 (.t 1)), xQ 2 6 (.mov (.k (.slice none 0 0))), xQ 3 7 (.mov (.k (.int .i64 0)))]
@[simp] def b_RPlaces_2 (_ : Unit) : EB := reg0 (hid l_RPlaces_1) 4
@[simp] def l_RPlaces_3 (_ : Unit) : List EOp := [xQ 0 11 (.lda 38 (.t 3)), xQ 1 12 (.lda 5 (.t 4)), xO 2 13 (.call 21 [(.t 11), (.t 12)]), xM 3 8 13]
@[simp] def b_RPlaces_4 (_ : Unit) : EB := reg0 (hid l_RPlaces_3) 4
@[simp] def l_RPlaces_5 (_ : Unit) : List EOp := [xM 0 14 8, xQ 1 15 (.bin .neq (.t 14) (.k (.int .i64 0)))]
@[simp] def b_RPlaces_6 (_ : Unit) : EB := reg0 (hid l_RPlaces_5) 2
@[simp] def l_RPlaces_7 (_ : Unit) : List EOp := [xM 0 16 8, xQ 1 6 (.mov (.k (.slice none 0 0))), xM 2 7 16]
@[simp] def b_RPlaces_8 (_ : Unit) : EB := reg0 (hid l_RPlaces_7) 3
@[simp] def l_RPlaces_12 (_ : Unit) : List EOp := [xM 0 17 2, xQ 1 18 (.bin .lss (.t 17) (.k (.int .i64 0))), xM 2 19 18, xG 3 20 19 false (.mov (.t 2)), xG 4 21 19 false (.bin .gtr (.t 20) (.k (.int .i64 1))), xQ 5 22 (.pick (.t 19) (.k (.bool true)) (.t 21))]
@[simp] def b_RPlaces_13 (_ : Unit) : EB := reg0 (hid l_RPlaces_12) 6
@[simp] def l_RPlaces_14 (_ : Unit) : List EOp := [xQ 0 6 (.mov (.k (.slice none 0 0))), xQ 1 7 (.mov (.k (.int .i64 1)))]
@[simp] def b_RPlaces_15 (_ : Unit) : EB := reg0 (hid l_RPlaces_14) 2
@[simp] def l_RPlaces_20 (_ : Unit) : List EOp := [xQ 6 29 (.ext 0 (.t 23)), xQ 7 30 (.ext 1 (.t 23)), xM 8 9 29, xM 9 10 30]
@[simp] def l_RPlaces_19 (_ : Unit) : List EOp := xQ 0 24 (.lda 38 (.t 3)) :: xQ 1 25 (.lda 5 (.t 4)) :: xM 2 26 2 :: xQ 3 27 (.build zU8 []) :: xO 4 28 (.call 45 [(.t 24), (.t 25), (.t 26), (.t 27)]) :: xM 5 23 28 :: hid l_RPlaces_20
@[simp] def l_RPlaces_22 (_ : Unit) : List EOp := [xM 0 31 10, xM 1 6 31, xQ 2 7 (.mov (.k (.int .i64 0)))]
@[simp] def b_RPlaces_23 (_ : Unit) : EB := reg0 (hid l_RPlaces_22) 3
@[simp] def l_RDone_1 (_ : Unit) : List EOp := [xQ 0 1 (.box 69 (.t 0)), xQ 1 2 (.alloc 69 [(.int .i64 0), (.slice none 0 0), (.slice none 0 0)]), xQ 2 3 (.mov (.k (.int .i64 0)))]
@[simp] def b_RDone_2 (_ : Unit) : EB := reg0 (hid l_RDone_1) 3
@[simp] def l_RDone_3 (_ : Unit) : List EOp := [xQ 0 5 (.lda 3 (.t 1)), xO 1 6 (.call 93 [(.t 5)]), xM 2 4 6]
@[simp] def b_RDone_4 (_ : Unit) : EB := reg0 (hid l_RDone_3) 3
@[simp] def l_RDone_5 (_ : Unit) : List EOp := [xM 0 7 4, xQ 1 8 (.bin .neq (.t 7) (.k (.int .i64 0)))]
@[simp] def b_RDone_6 (_ : Unit) : EB := reg0 (hid l_RDone_5) 2
@[simp] def l_RDone_7 (_ : Unit) : List EOp := [xQ 0 9 (.build [(.int .i64 0), (.slice none 0 0), (.slice none 0 0)] []), xM 1 10 4, xN 2 (.fz (.sto 3 (.t 2) (.t 9))), xM 3 3 10]
@[simp] def b_RDone_8 (_ : Unit) : EB := reg0 (hid l_RDone_7) 4
@[simp] def b_RDone_9 (_ : Unit) : EB := .seq (hid b_RDone_8) .ret
@[simp] def b_RDone_10 (_ : Unit) : EB := .cond (.t 8) (hid b_RDone_9) .skip
@[simp] def b_RDone_11 (_ : Unit) : EB := .seq (hid b_RDone_6) (hid b_RDone_10)
@[simp] def l_RDone_12 (_ : Unit) : List EOp := [xQ 0 11 (.lda 3 (.t 1)), xN 1 (.fz (.sto 3 (.t 2) (.t 11))), xQ 2 3 (.mov (.k (.int .i64 0)))]
@[simp] def b_RDone_13 (_ : Unit) : EB := reg0 (hid l_RDone_12) 3
@[simp] def b_RDone_14 (_ : Unit) : EB := .seq (hid b_RDone_13) .ret
@[simp] def b_RDone_15 (_ : Unit) : EB := .seq (hid b_RDone_11) (hid b_RDone_14)
@[simp] def b_RDone_16 (_ : Unit) : EB := .seq (hid b_RDone_4) (hid b_RDone_15)
@[simp] def b_RDone_17 (_ : Unit) : EB := .seq (hid b_RDone_2) (hid b_RDone_16)
def c_RDone : EB × List QOp × Nat := ((hid b_RDone_17), [(.lda 3 (.t 2)), (.mov (.t 3))], 12)
theorem k_RDone : cfun Tryz.prog 48 = some c_RDone := by kernel_rfl
@[simp] def l_RCommit_1 (_ : Unit) : List EOp := [xQ 0 4 (.box 28 (.t 0)), xQ 1 5 (.box 32 (.t 1)), xQ 2 7 (.box 23 (.t 3)), xQ 3 8 (.alloc 69 [(.int .i64 0), (.slice none 0 0), (.slice none 0 0)]), xQ 4 9 (.mov (.k (.int .i64 0)))]
@[simp] def b_RCommit_2 (_ : Unit) : EB := reg0 (hid l_RCommit_1) 5
@[simp] def l_RCommit_3 (_ : Unit) : List EOp := [xQ 0 13 (.lda 38 (.t 4)), xQ 1 14 (.lda 5 (.t 5)), xO 2 15 (.call 21 [(.t 13), (.t 14)]), xM 3 10 15]
@[simp] def b_RCommit_4 (_ : Unit) : EB := reg0 (hid l_RCommit_3) 4
@[simp] def l_RCommit_5 (_ : Unit) : List EOp := [xM 0 16 10, xQ 1 17 (.bin .neq (.t 16) (.k (.int .i64 0)))]
@[simp] def b_RCommit_6 (_ : Unit) : EB := reg0 (hid l_RCommit_5) 2
@[simp] def l_RCommit_7 (_ : Unit) : List EOp := [xQ 0 18 (.build [(.int .i64 0), (.slice none 0 0), (.slice none 0 0)] []), xM 1 19 10, xN 2 (.fz (.sto 3 (.t 8) (.t 18))), xM 3 9 19]
@[simp] def b_RCommit_8 (_ : Unit) : EB := reg0 (hid l_RCommit_7) 4
@[simp] def l_RCommit_13 (_ : Unit) : List EOp := [xM 6 26 25, xG 7 27 26 false (.lda 32 (.t 7)), xG 8 28 26 false (.build zU8 []), xG 9 29 26 false (.eqa false 32 .u8 (.t 27) (.t 28)), xQ 10 30 (.pick (.t 26) (.k (.bool true)) (.t 29))]
@[simp] def l_RCommit_12 (_ : Unit) : List EOp := xM 0 20 2 :: xQ 1 21 (.bin .lss (.t 20) (.k (.int .i64 0))) :: xM 2 22 21 :: xG 3 23 22 false (.mov (.t 2)) :: xG 4 24 22 false (.bin .gtr (.t 23) (.k (.int .i64 1))) :: xQ 5 25 (.pick (.t 22) (.k (.bool true)) (.t 24)) :: hid l_RCommit_13
@[simp] def l_RCommit_15 (_ : Unit) : List EOp := [xQ 0 31 (.build [(.int .i64 0), (.slice none 0 0), (.slice none 0 0)] []), xN 1 (.fz (.sto 3 (.t 8) (.t 31))), xQ 2 9 (.mov (.k (.int .i64 1)))]
@[simp] def b_RCommit_16 (_ : Unit) : EB := reg0 (hid l_RCommit_15) 3
@[simp] def l_RCommit_21 (_ : Unit) : List EOp := [xQ 6 38 (.ext 0 (.t 32)), xQ 7 39 (.ext 1 (.t 32)), xM 8 11 38, xM 9 12 39]
@[simp] def l_RCommit_20 (_ : Unit) : List EOp := xQ 0 33 (.lda 38 (.t 4)) :: xQ 1 34 (.lda 5 (.t 5)) :: xM 2 35 2 :: xQ 3 36 (.lda 32 (.t 7)) :: xO 4 37 (.call 45 [(.t 33), (.t 34), (.t 35), (.t 36)]) :: xM 5 32 37 :: hid l_RCommit_21
@[simp] def l_RCommit_24 (_ : Unit) : List EOp := [xO 6 46 (.call 48 [(.t 45)]), xQ 7 47 (.ext 0 (.t 46)), xQ 8 48 (.ext 1 (.t 46)), xN 9 (.fz (.sto 3 (.t 8) (.t 47))), xM 10 9 48]
@[simp] def l_RCommit_23 (_ : Unit) : List EOp := xQ 0 40 (.fad 0 (.t 4)) :: xQ 1 41 (.lda 33 (.t 40)) :: xQ 2 42 (.build (zU8 ++ [(.int .i64 0), (.int .i64 0), (.slice none 0 0)]) [(0, 33, (.t 41))]) :: xO 3 43 (.fz (.q (.bsl 35 (zU8 ++ [(.int .i64 0), (.int .i64 0), (.slice none 0 0)]) 1 [(0, (.t 42))]))) :: xM 4 44 11 :: xQ 5 45 (.build [(.int .i64 0), (.slice none 0 0), (.slice none 0 0)] [(1, 1, (.t 43)), (2, 1, (.t 44))]) :: hid l_RCommit_24
@[simp] def l_sure_1 (_ : Unit) : List EOp := [xQ 0 0 (.mov (.k (.bool false)))]
@[simp] def b_sure_2 (_ : Unit) : EB := reg0 (hid l_sure_1) 1
@[simp] def l_sure_3 (_ : Unit) : List EOp := [xQ 0 4 (.build [(.int .i64 0), (.int .i64 0)] [(0, 1, (.k (.int .i64 1))), (1, 1, (.k (.int .i64 2)))]), xQ 1 5 (.build (zU8 ++ [(.int .i64 0), (.int .i64 0), (.int .i64 0), (.int .i64 0), (.int .i64 0), (.int .i64 0)]) [(33, 1, (.k (.int .i64 100))), (34, 2, (.t 4)), (36, 1, (.k (.int .i64 3))), (37, 1, (.k (.int .i64 5)))]), xQ 2 1 (.alloc 42 (zU8 ++ [(.int .i64 0), (.int .i64 0), (.int .i64 0), (.int .i64 0), (.int .i64 0), (.int .i64 0)])), xN 3 (.sto 38 (.t 1) (.t 5))]
@[simp] def b_sure_4 (_ : Unit) : EB := reg0 (hid l_sure_3) 4
@[simp] def l_sure_6 (_ : Unit) : List EOp := [xQ 6 12 (.ext 0 (.t 6)), xQ 7 13 (.ext 1 (.t 6)), xQ 8 2 (.alloc 63 [(.int .i64 0), (.slice none 0 0), (.slice none 0 0)]), xN 9 (.fz (.sto 3 (.t 2) (.t 12))), xM 10 3 13]
@[simp] def l_sure_5 (_ : Unit) : List EOp := xQ 0 7 (.lda 38 (.t 1)) :: xQ 1 8 (.build [(.int .i64 0), (.int .i64 0)] [(0, 1, (.k (.int .i64 50))), (1, 1, (.k (.int .i64 50)))]) :: xQ 2 9 (.build [(.int .i64 0), (.int .i64 0), (.int .i64 0), (.slice none 0 0), (.slice none 0 0)] [(1, 2, (.t 8))]) :: xQ 3 10 (.build zU8 [(0, 1, (.k (.int .u8 1)))]) :: xO 4 11 (.call 18 [(.t 7), (.t 9), (.k (.int .i64 1)), (.t 10)]) :: xM 5 6 11 :: hid l_sure_6
@[simp] def b_sure_7 (_ : Unit) : EB := reg0 (hid l_sure_5) 11
@[simp] def l_sure_12 (_ : Unit) : List EOp := [xM 24 0 37]
@[simp] def l_sure_11 (_ : Unit) : List EOp := xG 18 32 30 true (.ldc (.t 31)) :: xG 19 33 30 true (.isl 2 (.t 32) (.k (.int .i64 1))) :: xG 20 34 30 true (.fad 0 (.t 33)) :: xG 21 35 30 true (.ldc (.t 34)) :: xG 22 36 30 true (.bin .eql (.t 35) (.k (.int .i64 45))) :: xQ 23 37 (.pick (.t 30) (.t 36) (.k (.bool false))) :: hid l_sure_12
@[simp] def l_sure_10 (_ : Unit) : List EOp := xG 12 26 22 true (.fad 0 (.t 25)) :: xG 13 27 22 true (.ldc (.t 26)) :: xG 14 28 22 true (.bin .eql (.t 27) (.k (.int .i64 50))) :: xQ 15 29 (.pick (.t 22) (.t 28) (.k (.bool false))) :: xM 16 30 29 :: xG 17 31 30 true (.fad 2 (.t 2)) :: hid l_sure_11
@[simp] def l_sure_9 (_ : Unit) : List EOp := xG 6 20 16 true (.bin .eql (.t 19) (.k (.int .i64 2))) :: xQ 7 21 (.pick (.t 16) (.t 20) (.k (.bool false))) :: xM 8 22 21 :: xG 9 23 22 true (.fad 2 (.t 2)) :: xG 10 24 22 true (.ldc (.t 23)) :: xG 11 25 22 true (.isl 2 (.t 24) (.k (.int .i64 0))) :: hid l_sure_10
@[simp] def l_sure_8 (_ : Unit) : List EOp := xM 0 14 3 :: xQ 1 15 (.eqi false (.t 14)) :: xM 2 16 15 :: xG 3 17 16 true (.fad 2 (.t 2)) :: xG 4 18 16 true (.ldc (.t 17)) :: xG 5 19 16 true (.len (.t 18)) :: hid l_sure_9
@[simp] def b_sure_13 (_ : Unit) : EB := reg0 (hid l_sure_8) 25
@[simp] def b_sure_14 (_ : Unit) : EB := .seq (hid b_sure_13) .ret
@[simp] def b_sure_15 (_ : Unit) : EB := .seq (hid b_sure_7) (hid b_sure_14)
@[simp] def b_sure_16 (_ : Unit) : EB := .seq (hid b_sure_4) (hid b_sure_15)
@[simp] def b_sure_17 (_ : Unit) : EB := .seq (hid b_sure_2) (hid b_sure_16)
def c_sure : EB × List QOp × Nat := ((hid b_sure_17), [(.mov (.t 0))], 38)
theorem k_sure : cfun Tryz.prog 12 = some c_sure := by kernel_rfl
theorem num_e (e : Nat) : ECalls Tryz.prog 17 [.lit (errV e)] [] fun y H' => H' = [] ∧ y = I .i64 e := by
  have h := num_ok (e : Int)
  have e1 : EN (e : Int) = .lit (errV e) := by
    unfold EN errV
    by_cases h : e = 0
    · subst h; rfl
    · rw [if_neg (by omega), if_neg h]
  rw [e1] at h
  exact h
set_option maxHeartbeats 4000000 in
theorem RDone_ok (t : Txn) (ht : t.ok) : ECalls Tryz.prog 48 [TXv t] [] fun y H' => H' = [] ∧ y = .tup [.agg (txC (donT t).1), .c (.fz (.lit (.int .i64 (donT t).2)))] := by
  have h1 := RTxCheck_ok t ht
  refine ecalls k_RDone ?_
  simp [c_RDone, TXv, txC, iC]
  refine call0 h1 (by simp [TXv, txC, iC]) ?_
  rintro y H' ⟨rfl, rfl⟩
  refine ⟨.inl (by simp [I]), le_ok rfl, ?_⟩
  by_cases c : chkT t = 0
  · rw [show donT t = (t, 0) from if_neg (by simpa using c)]
    simp [c, I]
    exact fin [] (by decide) rfl rfl rfl ⟨rfl, rfl⟩
  · rw [show donT t = (zTx, chkT t) from if_pos c]
    simp [c, I]
    refine finW _ (weak_nlB (o := 16) (k := 1) 35 rfl rfl) (finW _ (weak_nlB (o := 16) (k := 2) 2 rfl rfl) ?_)
    exact fin [] (by decide) rfl rfl rfl ⟨rfl, rfl⟩
theorem VV_nl {X : Cx} {e1 e2 : Nat} {a b c : EC} {u : Value} (h : VV X (.v (.agg [a, b, c, .fz (.lit (.slice none 0 0)), .fz (.lit (.slice none 0 0))])) u) : VV X (.v (.agg [a, b, c, .fz (.sl e1 []), .fz (.sl e2 [])])) u := by
  obtain ⟨vs, rfl, hv⟩ := h
  refine ⟨vs, rfl, by simpa using hv.1, ?_⟩
  intro i x y hx hy
  rcases i with _ | _ | _ | _ | _ | i
  · exact hv.2 0 x y hx hy
  · exact hv.2 1 x y hx hy
  · exact hv.2 2 x y hx hy
  · have := hv.2 3 _ y rfl hy
    simp at hx; subst hx
    exact nl_vr this
  · have := hv.2 4 _ y rfl hy
    simp at hx; subst hx
    exact nl_vr this
  · simp at hx
theorem ecalls_nl2 {P : Program} {f : FuncId} {e1 e2 : Nat} {a b c : EC} {x : EV} {r : List EV} {H : List EO} {post : EV → List (Option EO) → Prop} (h : ECalls P f (x :: .v (.agg [a, b, c, .fz (.sl e1 []), .fz (.sl e2 [])]) :: r) H post) :
    ECalls P f (x :: .v (.agg [a, b, c, .fz (.lit (.slice none 0 0)), .fz (.lit (.slice none 0 0))]) :: r) H post := by
  intro ρ Φ w vals r ha
  refine h ρ Φ w vals r ?_
  obtain ⟨u, us, rfl, h1, h2⟩ := ha.cons_left
  obtain ⟨u2, us2, rfl, h3, h4⟩ := h2.cons_left
  exact All2.cons h1 (All2.cons (VV_nl h3) h4)
def P0 : Prm := ⟨hz, 0, 100, 1, 2, 3, 5⟩
def lk0 : List UInt8 := 1 :: List.replicate 31 0
def s0 : Sta := ⟨0, 50, 50, [], []⟩
theorem P0_ok : P0.ok := by simp [P0, Prm.ok, i64, hz]
theorem s0_ok : s0.ok := by simp [s0, Sta.ok, i64]
theorem C0 : cmtS P0 s0 1 lk0 = (cmtT P0 s0 1 lk0, 0) := by kernel_rfl
theorem C1 : outsB P0 s0 1 lk0 = [⟨50, ownB P0 1 lk0⟩, ⟨45, allB [1]⟩] := by kernel_rfl
theorem hz_ex : hc hz = [EC.fz (FV.lit (.int .u8 0)), EC.fz (FV.lit (.int .u8 0)), EC.fz (FV.lit (.int .u8 0)), EC.fz (FV.lit (.int .u8 0)), EC.fz (FV.lit (.int .u8 0)), EC.fz (FV.lit (.int .u8 0)), EC.fz (FV.lit (.int .u8 0)), EC.fz (FV.lit (.int .u8 0)), EC.fz (FV.lit (.int .u8 0)), EC.fz (FV.lit (.int .u8 0)), EC.fz (FV.lit (.int .u8 0)), EC.fz (FV.lit (.int .u8 0)), EC.fz (FV.lit (.int .u8 0)), EC.fz (FV.lit (.int .u8 0)), EC.fz (FV.lit (.int .u8 0)), EC.fz (FV.lit (.int .u8 0)), EC.fz (FV.lit (.int .u8 0)), EC.fz (FV.lit (.int .u8 0)), EC.fz (FV.lit (.int .u8 0)), EC.fz (FV.lit (.int .u8 0)), EC.fz (FV.lit (.int .u8 0)), EC.fz (FV.lit (.int .u8 0)), EC.fz (FV.lit (.int .u8 0)), EC.fz (FV.lit (.int .u8 0)), EC.fz (FV.lit (.int .u8 0)), EC.fz (FV.lit (.int .u8 0)), EC.fz (FV.lit (.int .u8 0)), EC.fz (FV.lit (.int .u8 0)), EC.fz (FV.lit (.int .u8 0)), EC.fz (FV.lit (.int .u8 0)), EC.fz (FV.lit (.int .u8 0)), EC.fz (FV.lit (.int .u8 0))] := rfl
set_option maxHeartbeats 8000000 in
set_option maxRecDepth 8000 in
theorem sure_ok : ECalls Tryz.prog 12 [] [] fun y H' => H' = [] ∧ y = .lit (.bool true) := by
  have hop := BCommit_ok P0 s0 1 lk0 P0_ok s0_ok rfl
  rw [C0] at hop
  have hop' : ECalls Tryz.prog 18 [PVv P0, .v (.agg [iC 0, iC 50, iC 50, .fz (.lit (.slice none 0 0)), .fz (.lit (.slice none 0 0))]), I .i64 1, .v (.agg (hc lk0))] [] _ := ecalls_nl2 (e1 := 36) (e2 := 3) hop
  refine ecalls k_sure ?_
  simp [c_sure, hz_ex]
  refine call0 hop' (by kernel_rfl) ?_
  rintro y H' ⟨rfl, rfl⟩
  refine ⟨.inl (by simp [txC, iC]), le_ok rfl, ?_⟩
  simp [txC, cmtT, iC, C1, outv, outF, iF]
  exact fin [] (by decide) rfl rfl rfl ⟨rfl, rfl⟩
end Go.Proofs.YtflcfdeanneoeaaGreatDoor
namespace Go.Proofs.YtflcfdeanneoeaaGreatDoor
open Go Go.EW
set_option linter.unusedSimpArgs false
set_option linter.unusedVariables false
@[simp] def l_BuildPlaces_1 (_ : Unit) : List EOp := [xQ 0 3 (.box 28 (.t 0)), xQ 1 4 (.box 32 (.t 1)), xQ 2 6 (.mov (.k (.bool false)))]
@[simp] def b_BuildPlaces_2 (_ : Unit) : EB := reg0 (hid l_BuildPlaces_1) 3
@[simp] def l_BuildPlaces_3 (_ : Unit) : List EOp := [xQ 0 12 (.lda 5 (.t 4)), xO 1 13 (.call 11 [(.t 12)])]
@[simp] def b_BuildPlaces_4 (_ : Unit) : EB := reg0 (hid l_BuildPlaces_3) 2
@[simp] def l_BuildPlaces_5 (_ : Unit) : List EOp := [xO 0 14 (.call 12 []), xM 1 6 14]
@[simp] def b_BuildPlaces_6 (_ : Unit) : EB := reg0 (hid l_BuildPlaces_5) 2
@[simp] def l_BuildPlaces_11 (_ : Unit) : List EOp := [xM 6 15 21, xQ 7 22 (.ext 0 (.t 15)), xQ 8 23 (.ext 1 (.t 15)), xM 9 7 22, xM 10 8 23]
@[simp] def l_BuildPlaces_10 (_ : Unit) : List EOp := xQ 0 16 (.lda 38 (.t 3)) :: xQ 2 18 (.lda 5 (.t 4)) :: xM 4 20 2 :: ⟨1, (some 17), none, (.call 14 [(.t 16)]), [2, 4]⟩ :: ⟨3, (some 19), none, (.call 15 [(.t 18)]), [4]⟩ :: xO 5 21 (.call 13 [(.t 17), (.t 19), (.t 20)]) :: hid l_BuildPlaces_11
@[simp] def l_BuildPlaces_14 (_ : Unit) : List EOp := [xQ 6 30 (.ext 1 (.t 24)), xM 7 9 29, xM 8 10 30]
@[simp] def l_BuildPlaces_13 (_ : Unit) : List EOp := xQ 0 25 (.lda 38 (.t 3)) :: xQ 1 26 (.lda 5 (.t 4)) :: xM 2 27 2 :: xO 3 28 (.call 16 [(.t 25), (.t 26), (.t 27)]) :: xM 4 24 28 :: xQ 5 29 (.ext 0 (.t 24)) :: hid l_BuildPlaces_14
@[simp] def l_BuildPlaces_17 (_ : Unit) : List EOp := [xG 6 37 36 false (.mov (.t 8)), ⟨7, (some 38), (some (36, false)), (.call 17 [(.t 37)]), []⟩, xG 8 39 36 false (.mov (.t 10)), xG 9 40 36 false (.bin .neq (.t 38) (.t 39)), xQ 10 41 (.pick (.t 36) (.k (.bool true)) (.t 40))]
@[simp] def l_BuildPlaces_16 (_ : Unit) : List EOp := xM 0 31 7 :: xQ 1 32 (.len (.t 31)) :: xM 2 33 9 :: xQ 3 34 (.len (.t 33)) :: xQ 4 35 (.bin .neq (.t 32) (.t 34)) :: xM 5 36 35 :: hid l_BuildPlaces_17
@[simp] def l_BuildPlaces_19 (_ : Unit) : List EOp := [xQ 0 6 (.mov (.k (.bool false)))]
@[simp] def b_BuildPlaces_20 (_ : Unit) : EB := reg0 (hid l_BuildPlaces_19) 1
@[simp] def l_BuildPlaces_24 (_ : Unit) : List EOp := [xQ 0 11 (.mov (.k (.int .i64 0)))]
@[simp] def b_BuildPlaces_25 (_ : Unit) : EB := reg0 (hid l_BuildPlaces_24) 1
@[simp] def l_BuildPlaces_26 (_ : Unit) : List EOp := [xM 0 42 11, xM 1 43 7, xQ 2 44 (.len (.t 43)), xQ 3 45 (.bin .lss (.t 42) (.t 44))]
@[simp] def b_BuildPlaces_27 (_ : Unit) : EB := reg0 (hid l_BuildPlaces_26) 4
@[simp] def l_BuildPlaces_31 (_ : Unit) : List EOp := [xQ 6 54 (.isl 2 (.t 52) (.t 53)), xQ 7 55 (.lda 2 (.t 54)), xQ 8 56 (.eqw true [(2, .i64)] (.t 51) (.t 55))]
@[simp] def l_BuildPlaces_30 (_ : Unit) : List EOp := xM 0 48 7 :: xM 1 49 11 :: xQ 2 50 (.isl 2 (.t 48) (.t 49)) :: xQ 3 51 (.lda 2 (.t 50)) :: xM 4 52 9 :: xM 5 53 11 :: hid l_BuildPlaces_31
@[simp] def l_BuildPlaces_33 (_ : Unit) : List EOp := [xQ 0 6 (.mov (.k (.bool false)))]
@[simp] def b_BuildPlaces_34 (_ : Unit) : EB := reg0 (hid l_BuildPlaces_33) 1
@[simp] def l_BuildPlaces_39 (_ : Unit) : List EOp := [xM 0 46 11, xQ 1 47 (.bin .add (.t 46) (.k (.int .i64 1))), xM 2 11 47]
@[simp] def b_BuildPlaces_40 (_ : Unit) : EB := reg0 (hid l_BuildPlaces_39) 3
@[simp] def l_BuildPlaces_46 (_ : Unit) : List EOp := [xO 0 57 (.call 12 []), xM 1 6 57]
@[simp] def b_BuildPlaces_47 (_ : Unit) : EB := reg0 (hid l_BuildPlaces_46) 2
end Go.Proofs.YtflcfdeanneoeaaGreatDoor
namespace Go.Proofs.YtflcfdeanneoeaaGreatDoor
open Go.RowKit Go.Extern.Stop Go.Stop Go.Extern
set_option maxHeartbeats 4000000 in
theorem grow_w (n : Nat) (hn : n ≤ 1000000000) (h1 : 0 < n) (w : World) : Calls Tryz.prog 189 #[.slice none 0 0, .int .i64 n] w fun e w' =>
    e = .returned (.slice (some ⟨w.heap.size, 0, none⟩) 0 (grownCap w n 0 5)) ∧ w' = w.drew.alloc (.cells (Builtin.zeroCells #[.int .u8 0] n ++ Builtin.zeroCells #[.int .u8 0] (grownCap w n 0 5 - n)) 5) := by
  have key : (Tryz.prog.info? 5).map (fun i => (i.zero, i.size, i.bytes)) = some (some (.int .u8 0), 1, 1) := by kernel_rfl
  obtain ⟨i, hi, hz, hs, hb⟩ : ∃ i, Tryz.prog.info? 5 = some i ∧ i.zero = some (.int .u8 0) ∧ i.size = 1 ∧ i.bytes = 1 := by
    cases h : Tryz.prog.info? 5 with
    | none => rw [h] at key; simp at key
    | some i => rw [h] at key; simp at key; exact ⟨i, rfl, key.1, key.2.1, key.2.2⟩
  have hr : ∀ ty, (Builtin.append_ #[57, 3] ty #[.slice none 0 0, .int .i64 n]).run Tryz.prog w = .ok (.slice (some ⟨w.heap.size, 0, none⟩) n (grownCap w n 0 5)) (w.drew.alloc (.cells (Builtin.zeroCells #[.int .u8 0] n ++ Builtin.zeroCells #[.int .u8 0] (grownCap w n 0 5 - n)) 5)) := fun ty =>
    Lib.run_append_nil_zeros w 57 3 ty 5 _ (.int .u8 0) .i64 .i64 Tryz.underlying57 Tryz.underlying3 hi hz n h1 (by omega) (by omega) (by rw [hb]; omega)
  have h2 : ¬ ((n : Int) < 0) := by omega
  have h4 : (n : Int) > 0 := by omega
  have h3 : wrap64 (n : Int) = (n : Int) := by unfold wrap64; omega
  have hGn : n ≤ grownCap w n 0 5 := grownCap_ge w _ _ _
  obtain ⟨G, hG⟩ : ∃ G, G = grownCap w n 0 5 := ⟨_, rfl⟩
  rw [← hG] at hr hGn ⊢
  go_enter Tryz.func189, Tryz.ntmps189
  go_wp2_with (at_builtin; refine Lib.wpList_append_run _ rfl _ _ _ _ rfl _ _ rfl rfl _ _ (hr _) ?_)
  all_goals (go_ret; exact ⟨rfl, rfl⟩)
open Go.EW in
theorem Grow_ok (n : Nat) (hn : n ≤ 1000000000) (h1 : 0 < n) : ECalls Tryz.prog 189 [.v (.c (.fz (.lit (.slice none 0 0)))), .v (.c (.fz (.lit (.int .i64 n))))] [] fun y H' => H' = [some (.row 5 1 [])] ∧ y = .v (.c (.row 0 0)) := by
  intro ρ Φ w vals r ha
  obtain ⟨v, vs, rfl, hv, h2⟩ := ha.cons_left
  obtain ⟨v2, vs2, rfl, hv2, h3⟩ := h2.cons_left
  obtain rfl := h3.nil_left
  have hv' : FR Φ w (.lit (.slice none 0 0)) v := hv
  have hv2' : FR Φ w (.lit (.int .i64 n)) v2 := hv2
  cases hv'
  cases hv2'
  refine (grow_w n hn h1 w).mono fun e w' ⟨he, hw⟩ => ?_
  subst hw
  obtain ⟨G, hG⟩ : ∃ G, G = grownCap w n 0 5 := ⟨_, rfl⟩
  have hGn : n ≤ G := by rw [hG]; exact grownCap_ge w _ _ _
  have hGm : G ≤ maxLen := by rw [hG]; exact grownCap_le_maxLen w _ _ _ (by simp [maxLen]; omega)
  rw [← hG] at he ⊢
  have hu : (fun o : Nat => o < ([] : List EO).length ∨ o = 0) = fun o => o < [some (EO.row 5 1 [])].length := by funext o; simp
  have hh : upd (ofL ([] : List EO)) 0 (some (EO.row 5 1 [])) = ofO [some (EO.row 5 1 [])] := by
    funext o
    rcases o with _ | o
    · rfl
    · simp [upd, ofL, ofO]
  have key := r.new (w' := w.drew.alloc (.cells (Builtin.zeroCells #[.int .u8 0] n ++ Builtin.zeroCells #[.int .u8 0] (G - n)) 5)) rfl rfl rfl (by simp) (fun b hb => by
      have hb' : b < w.heap.size := hb
      show (w.drew.heap.push _)[b]? = w.heap[b]?
      rw [Array.getElem?_push_lt (by simpa using hb')]
      simp [hb', heap_drew]) 0 (by simp) (by simp) (.row 5 1 []) (.slice (some ⟨w.heap.size, 0, none⟩) 0 G) (by intro b hb; simp [EW.hb] at hb; subst hb; exact Nat.le_refl _) ?_
  · have k1 := key.1
    rw [hh, hu] at k1
    exact ⟨_, _, _, _, _, he, ⟨rfl, rfl⟩, by simp, ⟨by simp, some ⟨w.heap.size, 0, none⟩, 0, G, by simp [upd], Nat.le_refl _, Nat.zero_le _, rfl⟩, k1⟩
  · refine ⟨by decide, by simp, [], ⟨rfl, .inr ⟨w.heap.size, G, (Builtin.zeroCells #[.int .u8 0] n ++ Builtin.zeroCells #[.int .u8 0] (G - n)), rfl, Nat.zero_le _, ?_, Nat.zero_le _, hGm, ?_, by simp⟩⟩, All2.nil⟩
    · show (w.drew.heap.push _)[w.heap.size]? = _
      rw [show w.heap.size = w.drew.heap.size from rfl, Array.getElem?_push_size]
    · simp [Builtin.zeroCells]; omega
end Go.Proofs.YtflcfdeanneoeaaGreatDoor
namespace Go.Proofs.YtflcfdeanneoeaaGreatDoor
open Go Go.EW
set_option linter.unusedSimpArgs false
set_option linter.unusedVariables false
@[simp] def l_Concat_1 (_ : Unit) : List EOp := [xQ 0 2 (.mov (.k (.slice none 0 0)))]
@[simp] def b_Concat_2 (_ : Unit) : EB := reg0 (hid l_Concat_1) 1
@[simp] def l_Concat_3 (_ : Unit) : List EOp := [xQ 0 3 (.mov (.k (.int .i64 0)))]
@[simp] def b_Concat_4 (_ : Unit) : EB := reg0 (hid l_Concat_3) 1
@[simp] def l_Concat_5 (_ : Unit) : List EOp := [xM 0 9 0, xQ 1 10 (.len (.t 9)), xQ 2 11 (.mov (.k (.int .i64 0)))]
@[simp] def b_Concat_6 (_ : Unit) : EB := reg0 (hid l_Concat_5) 3
@[simp] def l_Concat_7 (_ : Unit) : List EOp := [xQ 0 12 (.bin .lss (.t 11) (.t 10))]
@[simp] def b_Concat_8 (_ : Unit) : EB := reg0 (hid l_Concat_7) 1
@[simp] def b_Concat_9 (_ : Unit) : EB := .cond (.t 12) .skip (.exit 0)
@[simp] def l_Concat_10 (_ : Unit) : List EOp := [xQ 0 13 (.isl 1 (.t 9) (.t 11)), xQ 1 14 (.ldc (.t 13)), xM 2 5 14]
@[simp] def b_Concat_11 (_ : Unit) : EB := reg0 (hid l_Concat_10) 3
@[simp] def l_Concat_12 (_ : Unit) : List EOp := [xM 0 15 3, xM 1 16 5, xQ 2 17 (.len (.t 16)), xQ 3 18 (.bin .add (.t 15) (.t 17)), xM 4 3 18]
@[simp] def b_Concat_13 (_ : Unit) : EB := reg0 (hid l_Concat_12) 5
@[simp] def l_Concat_14 (_ : Unit) : List EOp := [xM 0 19 3, xQ 1 20 (.bin .lss (.t 19) (.k (.int .i64 0)))]
@[simp] def b_Concat_15 (_ : Unit) : EB := reg0 (hid l_Concat_14) 2
@[simp] def b_Concat_16 (_ : Unit) : EB := .cond (.t 20) .bot .skip
@[simp] def b_Concat_17 (_ : Unit) : EB := .seq (hid b_Concat_15) (hid b_Concat_16)
@[simp] def b_Concat_18 (_ : Unit) : EB := .seq (hid b_Concat_13) (hid b_Concat_17)
@[simp] def b_Concat_19 (_ : Unit) : EB := .seq (hid b_Concat_11) (hid b_Concat_18)
@[simp] def b_Concat_20 (_ : Unit) : EB := .block 1 (hid b_Concat_19)
@[simp] def l_Concat_21 (_ : Unit) : List EOp := [xQ 0 22 (.bin .add (.t 11) (.k (.int .i64 1))), xM 1 11 22]
@[simp] def b_Concat_22 (_ : Unit) : EB := reg0 (hid l_Concat_21) 2
@[simp] def b_Concat_23 (_ : Unit) : EB := .seq (hid b_Concat_20) (hid b_Concat_22)
@[simp] def b_Concat_24 (_ : Unit) : EB := .seq (hid b_Concat_9) (hid b_Concat_23)
@[simp] def b_Concat_25 (_ : Unit) : EB := .seq (hid b_Concat_8) (hid b_Concat_24)
@[simp] def b_Concat_26 (_ : Unit) : EB := .loop (hid b_Concat_25)
@[simp] def b_Concat_27 (_ : Unit) : EB := .block 0 (hid b_Concat_26)
@[simp] def b_Concat_28 (_ : Unit) : EB := .seq (hid b_Concat_6) (hid b_Concat_27)
@[simp] def l_Concat_29 (_ : Unit) : List EOp := [xM 0 23 3, xO 1 24 (.call 189 [(.k (.slice none 0 0)), (.t 23)]), xM 2 6 24]
@[simp] def b_Concat_30 (_ : Unit) : EB := reg0 (hid l_Concat_29) 3
@[simp] def l_Concat_31 (_ : Unit) : List EOp := [xM 0 25 0, xQ 1 26 (.len (.t 25)), xQ 2 27 (.mov (.k (.int .i64 0)))]
@[simp] def b_Concat_32 (_ : Unit) : EB := reg0 (hid l_Concat_31) 3
@[simp] def l_Concat_33 (_ : Unit) : List EOp := [xQ 0 28 (.bin .lss (.t 27) (.t 26))]
@[simp] def b_Concat_34 (_ : Unit) : EB := reg0 (hid l_Concat_33) 1
@[simp] def b_Concat_35 (_ : Unit) : EB := .cond (.t 28) .skip (.exit 2)
@[simp] def l_Concat_36 (_ : Unit) : List EOp := [xQ 0 29 (.isl 1 (.t 25) (.t 27)), xQ 1 30 (.ldc (.t 29)), xM 2 8 30]
@[simp] def b_Concat_37 (_ : Unit) : EB := reg0 (hid l_Concat_36) 3
@[simp] def l_Concat_38 (_ : Unit) : List EOp := [xM 0 31 6, xM 1 32 8, xO 2 33 (.app 5 1 1 (.t 31) (.t 32)), xM 3 6 33]
@[simp] def b_Concat_39 (_ : Unit) : EB := reg0 (hid l_Concat_38) 4
@[simp] def b_Concat_40 (_ : Unit) : EB := .seq (hid b_Concat_37) (hid b_Concat_39)
@[simp] def b_Concat_41 (_ : Unit) : EB := .block 3 (hid b_Concat_40)
@[simp] def l_Concat_42 (_ : Unit) : List EOp := [xQ 0 34 (.bin .add (.t 27) (.k (.int .i64 1))), xM 1 27 34]
@[simp] def b_Concat_43 (_ : Unit) : EB := reg0 (hid l_Concat_42) 2
@[simp] def b_Concat_44 (_ : Unit) : EB := .seq (hid b_Concat_41) (hid b_Concat_43)
@[simp] def b_Concat_45 (_ : Unit) : EB := .seq (hid b_Concat_35) (hid b_Concat_44)
@[simp] def b_Concat_46 (_ : Unit) : EB := .seq (hid b_Concat_34) (hid b_Concat_45)
@[simp] def b_Concat_47 (_ : Unit) : EB := .loop (hid b_Concat_46)
@[simp] def b_Concat_48 (_ : Unit) : EB := .block 2 (hid b_Concat_47)
@[simp] def b_Concat_49 (_ : Unit) : EB := .seq (hid b_Concat_32) (hid b_Concat_48)
@[simp] def l_Concat_50 (_ : Unit) : List EOp := [xM 0 35 6, xM 1 2 35]
@[simp] def b_Concat_51 (_ : Unit) : EB := reg0 (hid l_Concat_50) 2
@[simp] def b_Concat_52 (_ : Unit) : EB := .seq (hid b_Concat_51) .ret
@[simp] def b_Concat_53 (_ : Unit) : EB := .seq (hid b_Concat_49) (hid b_Concat_52)
@[simp] def b_Concat_54 (_ : Unit) : EB := .seq (hid b_Concat_30) (hid b_Concat_53)
@[simp] def b_Concat_55 (_ : Unit) : EB := .seq (hid b_Concat_28) (hid b_Concat_54)
@[simp] def b_Concat_56 (_ : Unit) : EB := .seq (hid b_Concat_4) (hid b_Concat_55)
@[simp] def b_Concat_57 (_ : Unit) : EB := .seq (hid b_Concat_2) (hid b_Concat_56)
def c_Concat : EB × List QOp × Nat := ((hid b_Concat_57), [(.mov (.t 2))], 36)
theorem k_Concat : cfun Tryz.prog 167 = some c_Concat := by kernel_rfl
@[simp] def l_CPut_1 (_ : Unit) : List EOp := [xQ 0 3 (.box 116 (.t 1)), xQ 1 4 (.mov (.k (.slice none 0 0)))]
@[simp] def b_CPut_2 (_ : Unit) : EB := reg0 (hid l_CPut_1) 2
@[simp] def l_CPut_4 (_ : Unit) : List EOp := [xM 6 5 15]
@[simp] def l_CPut_3 (_ : Unit) : List EOp := xQ 1 11 (.fad 0 (.t 3)) :: xQ 2 12 (.ldc (.t 11)) :: xQ 3 13 (.len (.t 12)) :: xQ 4 14 (.cnv .u64 (.t 13)) :: ⟨0, (some 10), none, (.call 126 []), [1, 2, 3, 4]⟩ :: xO 5 15 (.call 127 [(.t 10), (.t 14)]) :: hid l_CPut_4
@[simp] def b_CPut_5 (_ : Unit) : EB := reg1 (hid l_CPut_3) 7
@[simp] def l_CPut_6 (_ : Unit) : List EOp := [xQ 0 16 (.fad 0 (.t 3)), xQ 1 17 (.ldc (.t 16)), xQ 2 18 (.len (.t 17)), xQ 3 19 (.mov (.k (.int .i64 0)))]
@[simp] def b_CPut_7 (_ : Unit) : EB := reg0 (hid l_CPut_6) 4
@[simp] def l_CPut_8 (_ : Unit) : List EOp := [xQ 0 20 (.bin .lss (.t 19) (.t 18))]
@[simp] def b_CPut_9 (_ : Unit) : EB := reg0 (hid l_CPut_8) 1
@[simp] def b_CPut_10 (_ : Unit) : EB := .cond (.t 20) .skip (.exit 0)
@[simp] def l_CPut_11 (_ : Unit) : List EOp := [xQ 0 21 (.isl 35 (.t 17) (.t 19)), xQ 1 22 (.lda 35 (.t 21)), xQ 2 7 (.alloc 187 (([(.slice none 0 0)] : List Value) ++ zU8 ++ [(.int .i64 0), (.int .i64 0)])), xN 3 (.fz (.sto 35 (.t 7) (.t 22)))]
@[simp] def b_CPut_12 (_ : Unit) : EB := reg0 (hid l_CPut_11) 4
@[simp] def l_CPut_13 (_ : Unit) : List EOp := [xM 0 23 5, xQ 1 24 (.fad 0 (.t 7)), xQ 2 25 (.ldc (.t 24)), xQ 3 26 (.len (.t 25)), xQ 4 27 (.cnv .u64 (.t 26)), xO 5 28 (.call 127 [(.t 23), (.t 27)])]
@[simp] def b_CPut_14 (_ : Unit) : EB := reg0 (hid l_CPut_13) 6
@[simp] def l_CPut_15 (_ : Unit) : List EOp := [xQ 0 29 (.fad 0 (.t 7)), xQ 1 30 (.ldc (.t 29)), xQ 2 31 (.len (.t 30)), xQ 3 32 (.mov (.k (.int .i64 0)))]
@[simp] def b_CPut_16 (_ : Unit) : EB := reg0 (hid l_CPut_15) 4
@[simp] def l_CPut_17 (_ : Unit) : List EOp := [xQ 0 33 (.bin .lss (.t 32) (.t 31))]
@[simp] def b_CPut_18 (_ : Unit) : EB := reg0 (hid l_CPut_17) 1
@[simp] def b_CPut_19 (_ : Unit) : EB := .cond (.t 33) .skip (.exit 2)
@[simp] def l_CPut_20 (_ : Unit) : List EOp := [xQ 0 34 (.isl 1 (.t 30) (.t 32)), xQ 1 35 (.ldc (.t 34)), xM 2 9 35]
@[simp] def b_CPut_21 (_ : Unit) : EB := reg0 (hid l_CPut_20) 3
@[simp] def l_CPut_22 (_ : Unit) : List EOp := [xM 0 36 5, xM 1 37 9, xQ 2 38 (.cnv .u64 (.t 37)), xO 3 39 (.call 127 [(.t 36), (.t 38)])]
@[simp] def b_CPut_23 (_ : Unit) : EB := reg0 (hid l_CPut_22) 4
@[simp] def b_CPut_24 (_ : Unit) : EB := .seq (hid b_CPut_21) (hid b_CPut_23)
@[simp] def b_CPut_25 (_ : Unit) : EB := .block 3 (hid b_CPut_24)
@[simp] def l_CPut_26 (_ : Unit) : List EOp := [xQ 0 40 (.bin .add (.t 32) (.k (.int .i64 1))), xM 1 32 40]
@[simp] def b_CPut_27 (_ : Unit) : EB := reg0 (hid l_CPut_26) 2
@[simp] def b_CPut_28 (_ : Unit) : EB := .seq (hid b_CPut_25) (hid b_CPut_27)
@[simp] def b_CPut_29 (_ : Unit) : EB := .seq (hid b_CPut_19) (hid b_CPut_28)
@[simp] def b_CPut_30 (_ : Unit) : EB := .seq (hid b_CPut_18) (hid b_CPut_29)
@[simp] def b_CPut_31 (_ : Unit) : EB := .loop (hid b_CPut_30)
@[simp] def b_CPut_32 (_ : Unit) : EB := .block 2 (hid b_CPut_31)
@[simp] def b_CPut_33 (_ : Unit) : EB := .seq (hid b_CPut_16) (hid b_CPut_32)
@[simp] def l_CPut_35 (_ : Unit) : List EOp := [xQ 8 49 (.fad 34 (.t 7)), xQ 9 50 (.ldc (.t 49)), xQ 10 51 (.cnv .u64 (.t 50)), ⟨3, (some 44), none, (.call 128 [(.t 41), (.t 43)]), [4, 5, 6, 8, 9, 10]⟩, ⟨7, (some 48), none, (.call 127 [(.t 44), (.t 47)]), [8, 9, 10]⟩, xO 11 52 (.call 127 [(.t 48), (.t 51)])]
@[simp] def l_CPut_34 (_ : Unit) : List EOp := xM 0 41 5 :: xQ 1 42 (.fad 1 (.t 7)) :: xQ 2 43 (.lda 32 (.t 42)) :: xQ 4 45 (.fad 33 (.t 7)) :: xQ 5 46 (.ldc (.t 45)) :: xQ 6 47 (.cnv .u64 (.t 46)) :: hid l_CPut_35
@[simp] def b_CPut_36 (_ : Unit) : EB := reg1 (hid l_CPut_34) 12
@[simp] def b_CPut_37 (_ : Unit) : EB := .seq (hid b_CPut_33) (hid b_CPut_36)
@[simp] def b_CPut_38 (_ : Unit) : EB := .seq (hid b_CPut_14) (hid b_CPut_37)
@[simp] def b_CPut_39 (_ : Unit) : EB := .seq (hid b_CPut_12) (hid b_CPut_38)
@[simp] def b_CPut_40 (_ : Unit) : EB := .block 1 (hid b_CPut_39)
@[simp] def l_CPut_41 (_ : Unit) : List EOp := [xQ 0 53 (.bin .add (.t 19) (.k (.int .i64 1))), xM 1 19 53]
@[simp] def b_CPut_42 (_ : Unit) : EB := reg0 (hid l_CPut_41) 2
@[simp] def b_CPut_43 (_ : Unit) : EB := .seq (hid b_CPut_40) (hid b_CPut_42)
@[simp] def b_CPut_44 (_ : Unit) : EB := .seq (hid b_CPut_10) (hid b_CPut_43)
@[simp] def b_CPut_45 (_ : Unit) : EB := .seq (hid b_CPut_9) (hid b_CPut_44)
@[simp] def b_CPut_46 (_ : Unit) : EB := .loop (hid b_CPut_45)
@[simp] def b_CPut_47 (_ : Unit) : EB := .block 0 (hid b_CPut_46)
@[simp] def b_CPut_48 (_ : Unit) : EB := .seq (hid b_CPut_7) (hid b_CPut_47)
@[simp] def l_CPut_49 (_ : Unit) : List EOp := [xM 0 54 0, xM 1 55 5, xO 2 56 (.call 130 [(.t 55)]), xO 3 57 (.fz (.q (.bsl 1 [(.slice none 0 0)] 2 [(0, (.t 54)), (1, (.t 56))]))), xO 4 58 (.call 167 [(.t 57)]), xM 5 4 58]
@[simp] def b_CPut_50 (_ : Unit) : EB := reg0 (hid l_CPut_49) 6
@[simp] def b_CPut_51 (_ : Unit) : EB := .seq (hid b_CPut_50) .ret
@[simp] def b_CPut_52 (_ : Unit) : EB := .seq (hid b_CPut_48) (hid b_CPut_51)
@[simp] def b_CPut_53 (_ : Unit) : EB := .seq (hid b_CPut_5) (hid b_CPut_52)
@[simp] def b_CPut_54 (_ : Unit) : EB := .seq (hid b_CPut_2) (hid b_CPut_53)
def c_CPut : EB × List QOp × Nat := ((hid b_CPut_54), [(.mov (.t 4))], 59)
theorem k_CPut : cfun Tryz.prog 131 = some c_CPut := by kernel_rfl
def braB (b : Bra) : List UInt8 := uB (b.keys.length : Int) ++ (usB b.keys ++ (b.lock ++ (uB b.af ++ uB b.ol)))
def brsB (l : List Bra) : List UInt8 := l.flatMap braB
def cndB (l : List Bra) : List UInt8 := uB (l.length : Int) ++ brsB l
theorem brsB_snoc (l : List Bra) (b : Bra) : brsB (l ++ [b]) = brsB l ++ braB b := by simp [brsB]
theorem flat_take {α : Type} (f : α → List UInt8) (l : List α) (i : Nat) : ((l.take i).flatMap f).length ≤ (l.flatMap f).length := by
  have : l.flatMap f = (l.take i).flatMap f ++ (l.drop i).flatMap f := by rw [← List.flatMap_append, List.take_append_drop]
  rw [this, List.length_append]
  omega
theorem flat_take_s {α : Type} (f : α → List UInt8) {l : List α} {i : Nat} {x : α} (h : l[i]? = some x) : ((l.take i).flatMap f).length + (f x).length ≤ (l.flatMap f).length := by
  have h1 := flat_take f l (i + 1)
  rw [take_s h, List.flatMap_append, List.length_append] at h1
  simpa using h1
theorem bsv_app (a b : List UInt8) : bsv a ++ bsv b = bsv (a ++ b) := by simp [bsv]
def two2 (a b : List UInt8) : List (List FV) := [[.sl 1 (bsv a)], [.sl 1 (bsv b)]]
def sumL (a b : List UInt8) (i : Nat) : Nat := if i = 0 then 0 else if i = 1 then a.length else a.length + b.length
def catL (a b : List UInt8) (i : Nat) : List UInt8 := if i = 0 then [] else if i = 1 then a else a ++ b
set_option maxHeartbeats 4000000 in
theorem Concat_ok (a b : List UInt8) (ha : a.length ≤ 400000000) (hb : b.length ≤ 400000000) (hb0 : 0 < b.length) : ECalls Tryz.prog 167 [.v (.c (.fz (.sl 1 (two2 a b))))] [] fun y H' => H' = [some (RO (a ++ b))] ∧ y = R 0 (a ++ b) := by
  have wa : IntKind.i64.wrap (a.length : Int) = (a.length : Int) := wrap_i64 (by omega) (by omega)
  have wb : IntKind.i64.wrap ((a.length : Int) + (b.length : Int)) = (a.length : Int) + (b.length : Int) := wrap_i64 (by omega) (by omega)
  have u1 : IntKind.i64.wrap 1 = 1 := by decide +kernel
  have u2 : IntKind.i64.wrap 2 = 2 := by decide +kernel
  have na : ¬ ((a.length : Int) < 0) := by omega
  have nb : ¬ ((a.length : Int) + (b.length : Int) < 0) := by omega
  refine ecalls k_Concat ?_
  simp [c_Concat, two2]
  refine eloop (α := Nat) (fun i => i ≤ 2) (fun i => 2 - i)
    (fun i => [.v (.c (.fz (.sl 1 (two2 a b)))), .any, .any, I .i64 (sumL a b i), .any, .any, .any, .any, .any, .v (.c (.fz (.sl 1 (two2 a b)))), I .i64 2, I .i64 i, .any, .any, .any, .any, .any, .any, .any, .any, .any, .any, .any, .any, .any, .any, .any, .any, .any, .any, .any, .any, .any, .any, .any, .any]) (fun i => []) 0 []
    (Nat.zero_le _) (by simp [I, two2, sumL]) (by simp) (by simp) (by simp) (by simp) ?_
  intro i hi
  obtain rfl | rfl | rfl : i = 0 ∨ i = 1 ∨ i = 2 := by omega
  · simp [I, two2, sumL, wa, na]
    exact round 1 [] (by omega) (by omega) (by simp [I, two2, sumL, u1]) (by simp) (by simp) (by simp) (by simp)
  · simp [I, two2, sumL, wb, nb]
    exact round 2 [] (by omega) (by omega) (by simp [I, two2, sumL, u2]) (by simp) (by simp) (by simp) (by simp)
  simp [I, two2, sumL]
  refine call0 (Grow_ok (a.length + b.length) (by omega) (by omega)) (by simp) ?_
  rintro y H' ⟨rfl, rfl⟩
  refine ⟨.inl (by simp), le_ok rfl, ?_⟩
  simp [I, two2]
  refine eloop (α := Nat) (fun i => i ≤ 2) (fun i => 2 - i)
    (fun i => [.any, .any, .any, .any, .any, .any, R 0 (catL a b i), .any, .any, .any, .any, .any, .any, .any, .any, .any, .any, .any, .any, .any, .any, .any, .any, .any, .any, .v (.c (.fz (.sl 1 (two2 a b)))), I .i64 2, I .i64 i, .any, .any, .any, .any, .any, .any, .any, .any]) (fun i => [some (RO (catL a b i))]) 0 [32]
    (Nat.zero_le _) (by simp [I, two2, catL, R]) (by simp [RO, catL, bsv]) (by simp) (by simp) (by simp) ?_
  intro i hi
  obtain rfl | rfl | rfl : i = 0 ∨ i = 1 ∨ i = 2 := by omega
  · simp [I, two2, catL, R, RO, u1]
    refine ⟨by omega, ?_⟩
    exact round 1 [97] (by omega) (by omega) (by simp [I, two2, catL, R]) (by simp [catL]) (by simp) (by simp) (by simp)
  · simp [I, two2, catL, R, RO, u2]
    refine ⟨by omega, ?_⟩
    exact round 2 [97] (by omega) (by omega) (by simp [I, two2, catL, R]) (by simp [catL, bsv_app]) (by simp) (by simp) (by simp)
  simp [I, two2, catL, R, RO]
  exact fin [0] (by decide) rfl rfl rfl ⟨rfl, rfl⟩
def BRL (l : List Bra) : EV := .v (.c (.fz (.sl 35 (brav l))))
theorem drop34z (a b : EC) : List.drop 34 (hc hz ++ [a, b]) = [] := by rw [List.drop_eq_nil_iff]; simp [hz]
set_option maxHeartbeats 8000000 in
theorem CPut_ok (pre : List UInt8) (l : List Bra) (hl : ∀ b ∈ l, b.ok) (hn : l.length ≤ 100000000) (hs : pre.length + (cndB l).length ≤ 400000000) : ECalls Tryz.prog 131 [Bs pre, CNv l] [] fun y H' => H' = [some (RO (pre ++ cndB l))] ∧ y = R 0 (pre ++ cndB l) := by
  have hc0 : (cndB l).length = (uB (l.length : Int)).length + (brsB l).length := by simp [cndB]
  refine ecalls k_CPut ?_
  simp [c_CPut, CNv, Bs]
  refine call0 New_ok rfl ?_
  rintro y H' ⟨rfl, rfl⟩
  refine ⟨.inl rfl, le_ok rfl, ?_⟩
  simp [Ptr, WO, RO, wrap_u64n]
  refine callH [32, 33] (WUint_ok [] (u64n (l.length : Int)) (u64n_lt _) (by simp)) (by simp [Ptr, I]) (by simp [WO, RO]) (by simp) (by simp) (by simp) ?_
  rintro y H' ⟨rfl, rfl⟩
  refine ⟨.inl (by simp), le_ok rfl, ?_⟩
  simp [WO, RO, Ptr, uB_eq]
  obtain ⟨F, hF⟩ : ∃ F : Nat → List UInt8, F = fun i => uB (l.length : Int) ++ brsB (l.take i) := ⟨_, rfl⟩
  have hF0 : uB (l.length : Int) = F 0 := by rw [hF]; simp [brsB]
  have hFl : ∀ i, (F i).length ≤ 400000000 := by
    intro i
    have hfl := flat_take braB l i
    rw [hF]; simp only [List.length_append]; unfold brsB at *; omega
  rw [hF0]
  refine eloop (α := Nat) (fun i => i ≤ l.length) (fun i => l.length - i)
    (fun i => [Bs pre, .any, .any, .any, .any, Ptr 0, .any, .any, .any, .any, .any, .any, .any, .any, .any, .any, .any, BRL l, I .i64 l.length, I .i64 i, .any, .any, .any, .any, .any, .any, .any, .any, .any, .any, .any, .any, .any, .any, .any, .any, .any, .any, .any, .any, .any, .any, .any, .any, .any, .any, .any, .any, .any, .any, .any, .any, .any, .any, .any, .any, .any, .any, .any]) (fun i => [some (WO 1 (F i)), some (RO (F i))]) 0 [32, 112]
    (Nat.zero_le _) (by simp [Ptr, I, Bs, BRL]) (by simp [WO, RO]) (by simp) (by simp) (by simp) ?_
  intro i hi
  have hX := hFl i
  simp [Ptr, I, Bs, BRL, WO, RO]
  refine alt (fun hlt => ?_) (fun hlt => ?_)
  · have hln : i < l.length := by omega
    obtain ⟨b, hcx⟩ : ∃ b, l[i]? = some b := ⟨l[i], by simp [hln]⟩
    have hge : (brav l)[i]'(by simpa using hln) = braF b := by
      have e := brav_get hcx
      rw [List.getElem?_eq_getElem (by simpa using hln)] at e
      exact Option.some.inj e
    have hb := hl b (List.mem_of_getElem? hcx)
    obtain ⟨b1, b2, b3, b4, b5⟩ := id hb
    have l0 := bc_len b2
    have f0 := bf_len b2
    have tk := bc_take b2
    have lk : List.take 32 (braC b).tail = hc b.lock := by have := bc_lock b2; simpa using this
    have e0 := idx_of (bc_0 b) (by omega)
    have e33 := idx_of (bc_33 b2) (by omega)
    have e34 := idx_of (bc_34 b2) (by omega)
    have w1 : IntKind.i64.wrap ((i : Int) + 1) = ((i + 1 : Nat) : Int) := wrap_i64 (by omega) (by omega)
    have hfs := flat_take_s braB hcx
    have hbl : (braB b).length = (uB (b.keys.length : Int)).length + ((usB b.keys).length + (32 + ((uB b.af).length + (uB b.ol).length))) := by simp [braB, b2]
    have hXb : (F i).length + (braB b).length ≤ 400000000 := by
      rw [hF]; simp only [List.length_append]; unfold brsB at *; omega
    have hFs : F (i + 1) = F i ++ braB b := by rw [hF]; simp [take_s hcx, brsB_snoc]
    simp [hln, hge, braF_fz, l0, f0, tk, e0, wrap_u64n]
    refine callH [0, 1] (WUint_ok (F i) (u64n (b.keys.length : Int)) (u64n_lt _) (by omega)) (by simp [Ptr, I]) (by simp [WO, RO]) (by simp) (by simp) (by simp) ?_
    rintro y H' ⟨rfl, rfl⟩
    refine ⟨.inl (by simp), le_ok rfl, ?_⟩
    obtain ⟨G, hG⟩ : ∃ G : Nat → List UInt8, G = fun j => F i ++ uB (b.keys.length : Int) ++ usB (b.keys.take j) := ⟨_, rfl⟩
    have hG0 : F i ++ uB (b.keys.length : Int) = G 0 := by rw [hG]; simp [usB]
    have hGl : ∀ j, (G j).length + 32 + (uB b.af).length + (uB b.ol).length ≤ 400000000 := by
      intro j
      have hfk := flat_take uB b.keys j
      rw [hG]; simp only [List.length_append]; unfold usB at *; omega
    simp only [uB_eq, hG0]
    simp [WO, RO, Ptr, l0, e0, drop34z]
    refine eloop (α := Nat) (fun j => j ≤ b.keys.length) (fun j => b.keys.length - j)
      (fun j => [Bs pre, .any, .any, .any, .any, Ptr 0, .any, Ptr 2, .any, .any, .any, .any, .any, .any, .any, .any, .any, BRL l, I .i64 l.length, I .i64 i, .any, .any, .any, .any, .any, .any, .any, .any, .any, .any, IL b.keys, I .i64 b.keys.length, I .i64 j, .any, .any, .any, .any, .any, .any, .any, .any, .any, .any, .any, .any, .any, .any, .any, .any, .any, .any, .any, .any, .any, .any, .any, .any, .any, .any])
      (fun j => [some (WO 1 (G j)), some (RO (G j)), some (.box 187 (braC b))]) 0 [0, 162, 50]
      (Nat.zero_le _) (by simp [Ptr, I, Bs, BRL, IL]) (by simp [WO, RO]) (by simp) (by simp) (by simp) ?_
    intro j hj
    have hY := hGl j
    simp [Ptr, I, Bs, BRL, IL, WO, RO]
    refine alt (fun hlt2 => ?_) (fun hlt2 => ?_)
    · have hjn : j < b.keys.length := by omega
      obtain ⟨k, hc2⟩ : ∃ k, b.keys[j]? = some k := ⟨b.keys[j], by simp [hjn]⟩
      have hcb2 := intv_get hc2
      have w3 : IntKind.i64.wrap ((j : Int) + 1) = ((j + 1 : Nat) : Int) := wrap_i64 (by omega) (by omega)
      have hGs : G (j + 1) = G j ++ uB k := by rw [hG]; simp [take_s hc2, usB_snoc]
      simp [hcb2, wrap_u64n]
      refine callH [0, 1] (WUint_ok (G j) (u64n k) (u64n_lt _) (by omega)) (by simp [Ptr, I]) (by simp [WO, RO]) (by simp) (by simp) (by simp) ?_
      rintro y H' ⟨rfl, rfl⟩
      refine ⟨.inl (by simp), le_ok rfl, ?_⟩
      simp only [uB_eq, ← hGs]
      simp [WO, RO, Ptr, w3, -Int.natCast_add]
      exact round (j + 1) [0, 115, 2] (by omega) (by omega) (by simp [Ptr, I, Bs, BRL, IL]) (by simp [WO, RO]) (by simp) (by simp) (by simp)
    have hjl : j = b.keys.length := by omega
    subst hjl
    simp [l0, lk, e33, e34, iC, wrap_u64n]
    refine callH [0, 1] (WHash_ok (G b.keys.length) b.lock (by omega) b2) (by simp [Ptr, Ag, lk]) (by simp [WO, RO]) (by simp) (by simp [lk]) (by simp) ?_
    rintro y H' ⟨rfl, rfl⟩
    refine ⟨.inl (by simp), le_ok rfl, ?_⟩
    simp [WO, RO, Ptr, l0, lk, e33, e34, iC, wrap_u64n]
    refine callH [0, 67] (WUint_ok (G b.keys.length ++ b.lock) (u64n b.af) (u64n_lt _) (by simp; omega)) (by simp [Ptr, I]) (by simp [WO, RO]) (by simp) (by simp) (by simp) ?_
    rintro y H' ⟨rfl, rfl⟩
    refine ⟨.inl (by simp), le_ok rfl, ?_⟩
    simp only [uB_eq]
    simp [WO, RO, Ptr, l0, lk, e33, e34, iC, wrap_u64n]
    refine callH [0, 131] (WUint_ok (G b.keys.length ++ b.lock ++ uB b.af) (u64n b.ol) (u64n_lt _) (by simp; omega)) (by simp [Ptr, I]) (by simp [WO, RO]) (by simp) (by simp) (by simp) ?_
    rintro y H' ⟨rfl, rfl⟩
    refine ⟨.inl (by simp), le_ok rfl, ?_⟩
    have hGe : G b.keys.length ++ b.lock ++ uB b.af ++ uB b.ol = F (i + 1) := by rw [hFs, hG]; simp [braB]
    simp only [uB_eq, hGe]
    simp [WO, RO, Ptr, w1, -Int.natCast_add]
    exact round (i + 1) [0, 195] (by omega) (by omega) (by simp [Ptr, I, Bs, BRL]) (by simp [WO, RO]) (by simp) (by simp) (by simp)
  have hil : i = l.length := by omega
  subst hil
  have hXc : cndB l = F l.length := by rw [hF]; simp [cndB]
  simp
  refine callH [0, 1] (WDone_ok (F l.length) (by omega)) (by simp [Ptr]) (by simp [WO, RO]) (by simp) (by simp) (by simp) ?_
  rintro y H' ⟨rfl, rfl⟩
  refine ⟨.inl (by simp), le_ok rfl, ?_⟩
  simp [WO, RO, R]
  refine call0 (Concat_ok pre (F l.length) (by omega) (by omega) (by rw [← hXc, hc0]; simp [uB, uintB]; omega)) (by simp [two2]) ?_
  rintro y H' ⟨rfl, rfl⟩
  refine ⟨.inl (by simp), le_ok rfl, ?_⟩
  simp [R, RO]
  exact fin [82] (by decide) rfl rfl rfl ⟨by simp [hXc], by simp [hXc]⟩
end Go.Proofs.YtflcfdeanneoeaaGreatDoor
