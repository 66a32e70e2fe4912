import Derived.Test.YtddcceahaigodaaGreatDoorAll6
import Derived.Test.YtddcceahaigodaaGreatDoorProg
set_option maxHeartbeats 64000000
namespace Go.Proofs.YtddcceahaigodaaGreatDoor
open Go Go.EW
set_option linter.unusedSimpArgs false
def s_Len64_0 : ByteArray := ⟨#[0, 1, 2, 2, 3, 3, 3, 3, 4, 4, 4, 4, 4, 4, 4, 4, 5, 5, 5, 5, 5, 5, 5, 5, 5, 5, 5, 5, 5, 5, 5, 5, 6, 6, 6, 6, 6, 6, 6, 6, 6, 6, 6, 6, 6, 6, 6, 6, 6, 6, 6, 6, 6, 6, 6, 6, 6, 6, 6, 6, 6, 6, 6, 6, 7, 7, 7, 7, 7, 7, 7, 7, 7, 7, 7, 7, 7, 7, 7, 7, 7, 7, 7, 7, 7, 7, 7, 7, 7, 7, 7, 7, 7, 7, 7, 7, 7, 7, 7, 7, 7, 7, 7, 7, 7, 7, 7, 7, 7, 7, 7, 7, 7, 7, 7, 7, 7, 7, 7, 7, 7, 7, 7, 7, 7, 7, 7, 7, 8, 8, 8, 8, 8, 8, 8, 8, 8, 8, 8, 8, 8, 8, 8, 8, 8, 8, 8, 8, 8, 8, 8, 8, 8, 8, 8, 8, 8, 8, 8, 8, 8, 8, 8, 8, 8, 8, 8, 8, 8, 8, 8, 8, 8, 8, 8, 8, 8, 8, 8, 8, 8, 8, 8, 8, 8, 8, 8, 8, 8, 8, 8, 8, 8, 8, 8, 8, 8, 8, 8, 8, 8, 8, 8, 8, 8, 8, 8, 8, 8, 8, 8, 8, 8, 8, 8, 8, 8, 8, 8, 8, 8, 8, 8, 8, 8, 8, 8, 8, 8, 8, 8, 8, 8, 8, 8, 8, 8, 8, 8, 8, 8, 8, 8, 8, 8, 8, 8, 8, 8, 8, 8, 8, 8, 8, 8, 8]⟩
def yl1ar : UL | _ => [xM 0 3 0, xQ 1 4 (.bin .geq (.t 3) (.k (.int .u64 4294967296)))]
def yl1as : UL | _ => [xM 0 5 0, xQ 1 6 (.bin .shr (.t 5) (.k (.int .u64 32))), xM 2 0 6]
def yl1aw : UL | _ => [xM 0 9 0, xQ 1 10 (.bin .shr (.t 9) (.k (.int .u64 16))), xM 2 0 10]
def yl1b0 : UL | _ => [xM 0 15 0, xQ 1 16 (.bin .shr (.t 15) (.k (.int .u64 8))), xM 2 0 16]
def yl1b3 : UL | _ => [xM 6 2 24]
def yl1b4 : UL | _ => xM 0 19 2 :: xM 1 20 0 :: xQ 2 21 (.cnv .u8 (.t 20)) :: xQ 3 22 (.ixs (.k (.string s_Len64_0)) (.t 21)) :: xQ 4 23 (.cnv .i64 (.t 22)) :: xb 5 24 .add 19 23 :: hid yl1b3
def yb1b5 : UB | _ => .seq (.seq (reg0 [xM 0 13 0, xQ 1 14 (.bin .geq (.t 13) (.k (.int .u64 256)))] 2) (.cond (.t 14) (.seq (reg0 (hid yl1b0) 3) (reg0 [xM 0 17 2, xc 1 18 .add 17 8, xM 2 2 18] 3)) .skip)) (.seq (reg0 (hid yl1b4) 7) .ret)
def yb1b6 : UB | _ => .seq (.seq (reg0 [xM 0 7 0, xQ 1 8 (.bin .geq (.t 7) (.k (.int .u64 65536)))] 2) (.cond (.t 8) (.seq (reg0 (hid yl1aw) 3) (reg0 [xM 0 11 2, xc 1 12 .add 11 16, xM 2 2 12] 3)) .skip)) (hid yb1b5)
def yb1b7 : UB | _ => .seq (reg0 [xC 0 2 0] 1) (.seq (.seq (reg0 (hid yl1ar) 2) (.cond (.t 4) (.seq (reg0 (hid yl1as) 3) (reg0 [xC 0 2 32] 1)) .skip)) (hid yb1b6))
attribute [simp] yl1ar yl1as yl1aw yl1b0 yl1b3 yl1b4 yb1b5 yb1b6 yb1b7
def c_Len64 : EB × List QOp × Nat := ((hid yb1b7), [(.mov (.t 2))], 25)
theorem k_Len64 : cfun Tryz.prog 154 = some c_Len64 := by kernel_rfl
def yl1b9 : UL | _ => [xM 0 3 0, xO 1 4 (.call 154 [.t 3]), xc 2 5 .add 4 7, xc 3 6 .quo 5 8, xM 4 2 6]
def yb1ba : UB | _ => .seq (reg0 [xC 0 2 0] 1) (.seq (reg0 (hid yl1b9) 5) .ret)
attribute [simp] yl1b9 yb1ba
def c_width : EB × List QOp × Nat := ((hid yb1ba), [(.mov (.t 2))], 7)
theorem k_width : cfun Tryz.prog 130 = some c_width := by kernel_rfl
def yl1bc : UL | _ => [xM 0 8 1, xO 1 9 (.call 130 [.t 8]), xc 2 10 .sub 9 1, xM 3 7 10]
def yl1be : UL | _ => [xM 6 21 2, xb 7 22 .xor 20 21, xQ 8 23 (.bsl 1 [(.int .u8 0)] 1 [(0, .t 22)]), xO 9 24 (.app 5 1 1 (.t 15) (.t 23)), xM 10 0 24]
def yl1bf : UL | _ => xM 0 15 0 :: xM 1 16 1 :: xM 2 17 7 :: xQ 3 18 (.bin .mul (xK 8) (.t 17)) :: xb 4 19 .shr 16 18 :: xQ 5 20 (.cnv .u8 (.t 19)) :: hid yl1be
def yb1bj : UB | _ => .seq (.seq (reg0 (hid yl1bc) 4) (.block 0 (.loop (.seq (.seq (reg0 [xM 0 11 7, xc 1 12 .geq 11 0] 2) (.cond (.t 12) .skip (.exit 0))) (.seq (.block 1 (reg0 (hid yl1bf) 11)) (reg0 [xM 0 13 7, xc 1 14 .sub 13 1, xM 2 7 14] 3)))))) (.seq (reg0 [xM 0 25 0, xM 1 6 25] 2) .ret)
def yb1bk : UB | _ => .seq (reg0 [xQ 0 6 (.mov (.k xS))] 1) (hid yb1bj)
attribute [simp] yl1bc yl1be yl1bf yb1bj yb1bk
def c_high : EB × List QOp × Nat := ((hid yb1bk), [(.mov (.t 6))], 26)
theorem k_high : cfun Tryz.prog 129 = some c_high := by kernel_rfl
theorem tab_ok : lenTab (fun i => s_Len64_0.data.toList[i]?) = true := by kernel_rfl
theorem leaf_ok (n x k : Nat) (hx : x = n / 2 ^ k) (h0 : k = 0 ∨ x ≠ 0) (h1 : x < 256) : ∃ r : UInt8, s_Len64_0.data.toList[x]? = some r ∧ IsLen n (k + r.toNat) ∧ r.toNat ≤ 8 := by
 obtain ⟨r, h2, h3, h4⟩ := lenTab_spec tab_ok h1
 refine ⟨r, h2, ?_, h4⟩
 rcases h0 with rfl | h0
 ·simp at hx; subst hx; simpa using h3
 ·subst hx; exact isLen_shift h3 h0
theorem len64_ok (n : Nat) (h : n < 18446744073709551616) : ECalls Tryz.prog 154 [I .u64 n] [] fun y H' => H' = [] ∧ ∃ r : Nat, IsLen n r ∧ r ≤ 64 ∧ y = I .i64 r := by
 have leaf : ∀ (a : Int) (x k : Nat), a = x → x = n / 2 ^ k → (k = 0 ∨ x ≠ 0) → x < 256 → ∃ r : UInt8, IntKind.u8.wrap a = a ∧ 0 ≤ a ∧ s_Len64_0.data[a.toNat]? = some r ∧ IsLen n (k + r.toNat) ∧ r.toNat ≤ 8 := by
  rintro a x k rfl h1 h2 h3
  obtain ⟨r, q1, q2, q3⟩ := leaf_ok n x k h1 h2 h3
  exact ⟨r, wrap_u8 (by omega) (by omega), by omega, by simpa using q1, q2, q3⟩
 refine ecalls k_Len64 ?_
 simp [c_Len64, I]
 refine alt (fun h1 => ?_) (fun h1 => ?_) <;> simp (disch := omega) [wrap_i64] <;> refine alt (fun h2 => ?_) (fun h2 => ?_) <;> simp (disch := omega) [wrap_i64] <;> refine alt (fun h3 => ?_) (fun h3 => ?_) <;> simp (disch := omega) [wrap_i64]
 ·obtain ⟨r, e1, e2, e3, e4, e5⟩ := leaf ((n : Int) / 4294967296 / 65536 / 256) (n / 2 ^ 56) 56 (by omega) rfl (by omega) (by omega)
  simp (disch := omega) [e1, e2, e3, wrap_i64]
  exact fin [] (by simp) rfl rfl rfl ⟨rfl, 56 + r.toNat, e4, by omega, by simp⟩
 ·obtain ⟨r, e1, e2, e3, e4, e5⟩ := leaf ((n : Int) / 4294967296 / 65536) (n / 2 ^ 48) 48 (by omega) rfl (by omega) (by omega)
  simp (disch := omega) [e1, e2, e3, wrap_i64]
  exact fin [] (by simp) rfl rfl rfl ⟨rfl, 48 + r.toNat, e4, by omega, by simp⟩
 ·obtain ⟨r, e1, e2, e3, e4, e5⟩ := leaf ((n : Int) / 4294967296 / 256) (n / 2 ^ 40) 40 (by omega) rfl (by omega) (by omega)
  simp (disch := omega) [e1, e2, e3, wrap_i64]
  exact fin [] (by simp) rfl rfl rfl ⟨rfl, 40 + r.toNat, e4, by omega, by simp⟩
 ·obtain ⟨r, e1, e2, e3, e4, e5⟩ := leaf ((n : Int) / 4294967296) (n / 2 ^ 32) 32 (by omega) rfl (by omega) (by omega)
  simp (disch := omega) [e1, e2, e3, wrap_i64]
  exact fin [] (by simp) rfl rfl rfl ⟨rfl, 32 + r.toNat, e4, by omega, by simp⟩
 ·obtain ⟨r, e1, e2, e3, e4, e5⟩ := leaf ((n : Int) / 65536 / 256) (n / 2 ^ 24) 24 (by omega) rfl (by omega) (by omega)
  simp (disch := omega) [e1, e2, e3, wrap_i64]
  exact fin [] (by simp) rfl rfl rfl ⟨rfl, 24 + r.toNat, e4, by omega, by simp⟩
 ·obtain ⟨r, e1, e2, e3, e4, e5⟩ := leaf ((n : Int) / 65536) (n / 2 ^ 16) 16 (by omega) rfl (by omega) (by omega)
  simp (disch := omega) [e1, e2, e3, wrap_i64]
  exact fin [] (by simp) rfl rfl rfl ⟨rfl, 16 + r.toNat, e4, by omega, by simp⟩
 ·obtain ⟨r, e1, e2, e3, e4, e5⟩ := leaf ((n : Int) / 256) (n / 2 ^ 8) 8 (by omega) rfl (by omega) (by omega)
  simp (disch := omega) [e1, e2, e3, wrap_i64]
  exact fin [] (by simp) rfl rfl rfl ⟨rfl, 8 + r.toNat, e4, by omega, by simp⟩
 ·obtain ⟨r, e1, e2, e3, e4, e5⟩ := leaf ((n : Int)) (n / 2 ^ 0) 0 (by omega) rfl (by omega) (by omega)
  simp at e3 e4
  simp (disch := omega) [e1, e2, e3, wrap_i64]
  exact fin [] (by simp) rfl rfl rfl ⟨rfl, r.toNat, e4, by omega, by simp⟩
theorem width_ok (n : Nat) (h : n < 18446744073709551616) : ECalls Tryz.prog 130 [I .u64 n] [] fun y H' => H' = [] ∧ y = I .i64 (nb n) := by
 refine ecalls k_width ?_
 simp [c_width, I]
 refine call0 (len64_ok n h) rfl ?_
 rintro y H' ⟨rfl, r, hr, hle, rfl⟩
 have h1 : IntKind.i64.wrap ((r : Int) + 7) = (r : Int) + 7 := wrap_i64 (by omega) (by omega)
 have h2 : IntKind.i64.wrap (((r : Int) + 7).tdiv 8) = (nb n : Int) := by
  rw [← isLen_nb hr, Int.tdiv_eq_ediv_of_nonneg (by omega), wrap_i64 (by omega) (by omega)]; omega
 simp [I, h1, h2]
 exact fin [] (by simp) rfl rfl rfl ⟨rfl, rfl⟩
def R (o : Nat) (l : List UInt8) : EV := .v (.c (.row o l.length))
def RO (l : List UInt8) : EO := .row 5 1 (bsv l)
theorem high_ok (bs : List UInt8) (n : Nat) (m : UInt8) (h : n < 18446744073709551616) (hb : bs.length ≤ 1000000000) :
  ECalls Tryz.prog 129 [R 0 bs, I .u64 n, I .u8 m.toNat] [RO bs] fun y H' => H' = [none, some (RO (bs ++ (dg n).map (· ^^^ m)))] ∧ y = R 1 (bs ++ (dg n).map (· ^^^ m)) := by
 refine ecalls k_high ?_
 simp [c_high, I, R]
 refine call0 (width_ok n h) rfl ?_
 rintro y H' ⟨rfl, rfl⟩
 have h8 := nb_8 h
 simp (disch := omega) [I, wrap_i64]
 refine eloop (α := Nat × List UInt8) (fun a => a.1 ≤ nb n ∧ a.2 ++ (be a.1 n).map (· ^^^ m) = (dg n).map (· ^^^ m)) (fun a => a.1)
  (fun a => [R 1 (bs ++ a.2), I .u64 n, I .u8 m.toNat, xA, xA, xA, xA, I .i64 ((a.1 : Int) - 1), xA, xA, xA, xA, xA, xA, xA, xA, xA, xA, xA, xA, xA, xA, xA, xA, xA, .any]) (fun a => [none, some (RO (bs ++ a.2))]) (nb n, []) [0, 0]
  ⟨Nat.le_refl _, by simp [dg]⟩ (by simp [R, I]) (by simp [RO]) (by simp) (by simp) (by simp) ?_
 rintro ⟨k, ds⟩ ⟨hk, hds⟩
 simp [I, R, RO] at hk hds ⊢
 refine alt (fun hp => ?_) (fun hp => ?_)
 ·obtain ⟨j, rfl⟩ : ∃ j, k = j + 1 := ⟨k - 1, by omega⟩
  have hdl := congrArg List.length hds
  simp [be_len, dg_len] at hdl
  simp (disch := omega) [wrap_i64, xor_byte]
  exact ⟨by omega, ⟨by omega, by omega⟩, round (j, ds ++ [b8 (n / 256 ^ j) ^^^ m]) [0, 178] ⟨by simp; omega, by rw [← hds]; simp [be]⟩ (by simp) (by simp [R, I, Nat.add_assoc]) (by simp [RO, bsv, cb]) (by simp) (by simp) (by simp)⟩
 ·obtain rfl : k = 0 := by omega
  simp [be] at hds
  subst hds
  simp
  exact fin [1] (by simp) rfl rfl rfl ⟨by simp [RO], by simp [R]⟩
def yb1bn : UB | _ => .seq (reg0 [xQ 0 0 (.mov (.k (.pointer none)))] 1) (.seq (reg0 [xQ 0 1 (.alloc 265 [xS]), xM 1 0 1] 2) .ret)
attribute [simp] yb1bn
def c_New : EB × List QOp × Nat := ((hid yb1bn), [(.mov (.t 0))], 2)
theorem k_New : cfun Tryz.prog 82 = some c_New := by kernel_rfl
def yl1bq : UL | _ => [xQ 12 19 (.nilc (.t 7)), xF 13 20 0 19, xN 14 (.fz (.sto 1 (.t 20) (.t 18)))]
def yl1br : UL | _ => xM 10 17 1 :: ⟨6, (some 13), none, (.call 130 [.t 12]), [0, 1, 2, 3, 4, 10]⟩ :: xQ 7 14 (.cnv .u8 (.t 13)) :: xQ 8 15 (.bsl 1 [(.int .u8 0)] 1 [(0, .t 14)]) :: ⟨9, (some 16), none, (.app 5 1 1 (.t 11) (.t 15)), [0, 10]⟩ :: ⟨11, (some 18), none, (.call 129 [.t 16, .t 17, (.k (.int .u8 0))]), [0]⟩ :: hid yl1bq
def yl1bs : UL | _ => xM 0 7 0 :: xM 1 8 0 :: xQ 2 9 (.nilc (.t 8)) :: xF 3 10 0 9 :: xL 4 11 10 :: xM 5 12 1 :: hid yl1br
def yb1bv : UB | _ => .seq (reg0 [xQ 0 4 (.mov (.k (.pointer none)))] 1) (.seq (.seq (reg0 [xM 0 5 0, xQ 1 6 (.eqp true (.t 5))] 2) (.cond (.t 6) (reg1 (hid yl1bs) 15) .skip)) (.seq (reg0 [xM 0 21 0, xM 1 4 21] 2) .ret))
attribute [simp] yl1bq yl1br yl1bs yb1bv
def c_WUint : EB × List QOp × Nat := ((hid yb1bv), [(.mov (.t 4))], 22)
theorem k_WUint : cfun Tryz.prog 84 = some c_WUint := by kernel_rfl
def yl1c3 : UL | _ => [xQ 6 21 (.bsl 1 [(.int .u8 0)] 1 [(0, .t 20)]), xO 7 22 (.app 5 1 1 (.t 19) (.t 21)), xQ 8 23 (.nilc (.t 15)), xF 9 24 0 23, xN 10 (.fz (.sto 1 (.t 24) (.t 22)))]
def yl1c4 : UL | _ => xM 0 15 0 :: xM 1 16 0 :: xQ 2 17 (.nilc (.t 16)) :: xF 3 18 0 17 :: xL 4 19 18 :: xM 5 20 6 :: hid yl1c3
def yl1c6 : UL | _ => [xO 6 33 (.app 5 1 1 (.t 31) (.t 32)), xQ 7 34 (.nilc (.t 27)), xF 8 35 0 34, xN 9 (.fz (.sto 1 (.t 35) (.t 33)))]
def yl1c7 : UL | _ => xM 0 27 0 :: xM 1 28 0 :: xQ 2 29 (.nilc (.t 28)) :: xF 3 30 0 29 :: xL 4 31 30 :: xQ 5 32 (.bsl 1 [(.int .u8 0)] 1 [(0, (.k (.int .u8 255)))]) :: hid yl1c6
def yb1cb : UB | _ => .seq (.cond (.t 12) .skip (.exit 0)) (.seq (.block 1 (.seq (reg0 [xI 0 13 1 9 11, xL 1 14 13, xM 2 6 14] 3) (.seq (reg0 (hid yl1c4) 11) (.seq (reg0 [xM 0 25 6, xQ 1 26 (.bin .eql (.t 25) (.k (.int .u8 0)))] 2) (.cond (.t 26) (reg0 (hid yl1c7) 10) .skip))))) (reg0 [xc 0 36 .add 11 1, xM 1 11 36] 2))
def yb1cc : UB | _ => .seq (reg0 [xM 0 9 1, xE 1 10 9, xC 2 11 0] 3) (.block 0 (.loop (.seq (reg0 [xb 0 12 .lss 11 10] 1) (hid yb1cb))))
def yl1cd : UL | _ => [xO 6 43 (.app 5 1 1 (.t 41) (.t 42)), xQ 7 44 (.nilc (.t 37)), xF 8 45 0 44, xN 9 (.fz (.sto 1 (.t 45) (.t 43)))]
def yl1ce : UL | _ => xM 0 37 0 :: xM 1 38 0 :: xQ 2 39 (.nilc (.t 38)) :: xF 3 40 0 39 :: xL 4 41 40 :: xQ 5 42 (.bsl 1 [(.int .u8 0)] 2 [(0, (.k (.int .u8 0))), (1, (.k (.int .u8 0)))]) :: hid yl1cd
def yb1ch : UB | _ => .seq (reg0 [xQ 0 4 (.mov (.k (.pointer none)))] 1) (.seq (.seq (reg0 [xM 0 7 0, xQ 1 8 (.eqp false (.t 7))] 2) (.cond (.t 8) (.seq (reg0 [xQ 0 4 (.mov (.k (.pointer none)))] 1) .ret) .skip)) (.seq (hid yb1cc) (.seq (reg0 (hid yl1ce) 10) (.seq (reg0 [xM 0 46 0, xM 1 4 46] 2) .ret))))
attribute [simp] yl1c3 yl1c4 yl1c6 yl1c7 yb1cb yb1cc yl1cd yl1ce yb1ch
def c_WBytes : EB × List QOp × Nat := ((hid yb1ch), [(.mov (.t 4))], 47)
theorem k_WBytes : cfun Tryz.prog 111 = some c_WBytes := by kernel_rfl
def yl1ck : UL | _ => [⟨6, (some 13), none, (.app 5 1 1 (.t 11) (.t 12)), [0]⟩, xQ 7 14 (.nilc (.t 7)), xF 8 15 0 14, xN 9 (.fz (.sto 1 (.t 15) (.t 13)))]
def yl1cl : UL | _ => xM 0 7 0 :: xM 1 8 0 :: xQ 2 9 (.nilc (.t 8)) :: xF 3 10 0 9 :: xL 4 11 10 :: xQ 5 12 (.sar 32 (.t 3) none none) :: hid yl1ck
def yb1co : UB | _ => .seq (reg0 [xW 0 3 23 1, xQ 1 4 (.mov (.k (.pointer none)))] 2) (.seq (.seq (reg0 [xM 0 5 0, xQ 1 6 (.eqp true (.t 5))] 2) (.cond (.t 6) (reg1 (hid yl1cl) 10) .skip)) (.seq (reg0 [xM 0 16 0, xM 1 4 16] 2) .ret))
attribute [simp] yl1ck yl1cl yb1co
def c_WHash : EB × List QOp × Nat := ((hid yb1co), [(.mov (.t 4))], 17)
theorem k_WHash : cfun Tryz.prog 85 = some c_WHash := by kernel_rfl
def yl1ct : UL | _ => [xM 0 5 0, xQ 1 6 (.nilc (.t 5)), xF 2 7 0 6, xL 3 8 7, xO 4 9 (.call 131 [.t 8]), xM 5 2 9]
def yb1cu : UB | _ => .seq (reg0 [xQ 0 2 (.mov (.k xS))] 1) (.seq (.seq (reg0 [xM 0 3 0, xQ 1 4 (.eqp false (.t 3))] 2) (.cond (.t 4) (.seq (reg0 [xQ 0 2 (.mov (.k xS))] 1) .ret) .skip)) (.seq (reg0 (hid yl1ct) 6) .ret))
attribute [simp] yl1ct yb1cu
def c_WDone : EB × List QOp × Nat := ((hid yb1cu), [(.mov (.t 2))], 10)
theorem k_WDone : cfun Tryz.prog 86 = some c_WDone := by kernel_rfl
def yl1cz : UL | _ => [xQ 0 5 (.bsr 5 1 [(.int .u8 0)] 0 []), xM 1 6 0, xO 2 7 (.app 5 1 1 (.t 5) (.t 6)), xM 3 2 7]
def yb1d0 : UB | _ => .seq (reg0 [xQ 0 2 (.mov (.k xS))] 1) (.seq (.seq (reg0 [xM 0 3 0, xO 1 4 (.nild false (.t 3))] 2) (.cond (.t 4) (.seq (reg0 [xQ 0 2 (.mov (.k xS))] 1) .ret) .skip)) (.seq (reg0 (hid yl1cz) 4) .ret))
attribute [simp] yl1cz yb1d0
def c_CloneB : EB × List QOp × Nat := ((hid yb1d0), [(.mov (.t 2))], 8)
theorem k_CloneB : cfun Tryz.prog 131 = some c_CloneB := by kernel_rfl
def Ptr (o : Nat) : EV := .v (.c (.ptr o 0))
def WO (r : Nat) (l : List UInt8) : EO := .box 265 [.row r l.length]
def uintB (n : Nat) : List UInt8 := b8 (nb n) :: dg n
theorem xor0 (l : List UInt8) : l.map (· ^^^ 0) = l := by
 induction l with
 | nil => rfl
 | cons x r ih => rw [List.map_cons, ih]; simp
theorem New_ok : ECalls Tryz.prog 82 [] [] fun y H' => H' = [some (WO 1 []), some (RO [])] ∧ y = Ptr 0 := by
 refine ecalls k_New ?_
 simp [c_New]
 refine finW _ (weak_nil (o := 16) (k := 0) (ty := 5) (es := 1) rfl rfl (by omega)) ?_
 exact fin [16, 48] (by simp) rfl rfl rfl ⟨rfl, rfl⟩
theorem clone_ok (l : List UInt8) (hl : l.length ≤ 1000000000) : ECalls Tryz.prog 131 [Bs l] [] fun y H' => H' = [some (RO l)] ∧ y = R 0 l := by
 refine ecalls k_CloneB ?_
 simp [c_CloneB, Bs]
 refine both (fun h => ?_) (fun _ => ?_)
 ·simp
  refine finW _ (weak_nilR 2 5 1 rfl (by omega)) ?_
  exact fin [64] (by decide) rfl rfl rfl ⟨by rw [h]; rfl, by rw [h]; rfl⟩
 ·simp
  exact ⟨by omega, fin [80] (by decide) rfl rfl rfl ⟨rfl, rfl⟩⟩
theorem WUint_ok (bs : List UInt8) (n : Nat) (h : n < 18446744073709551616) (hb : bs.length ≤ 900000000) :
  ECalls Tryz.prog 84 [Ptr 0, I .u64 n] [WO 1 bs, RO bs] fun y H' => H' = [some (WO 2 (bs ++ uintB n)), none, some (RO (bs ++ uintB n))] ∧ y = Ptr 0 := by
 have h8 := nb_8 h
 refine ecalls k_WUint ?_
 simp [c_WUint, I, Ptr, WO, RO]
 refine call0 (width_ok n h) rfl ?_
 rintro y H' ⟨rfl, rfl⟩
 simp (disch := omega) [I, wrap_u8_nat, Wok]
 refine ⟨by omega, callH [194] (high_ok (bs ++ [b8 (nb n)]) n 0 h (by simp; omega)) (by simp [R, I]) (by simp [RO, bsv, cb]) (by simp) (by simp) (by simp [Wok]) ?_⟩
 rintro y H' ⟨rfl, rfl⟩
 refine ⟨.inl rfl, le_ok rfl, ?_⟩
 simp [R, xor0]
 exact fin [226] (by decide) rfl rfl rfl ⟨by simp [RO, uintB], rfl⟩
def stuffB (l : List UInt8) : List UInt8 := l.flatMap fun c => if c = 0 then [0, 255] else [c]
def bytesB (l : List UInt8) : List UInt8 := stuffB l ++ [0, 0]
theorem stuff_len (l : List UInt8) : (stuffB l).length ≤ 2 * l.length := by
 induction l with
 | nil => simp [stuffB]
 | cons x r ih =>
  have : (stuffB (x :: r)).length = (if x = 0 then [0, 255] else [x] : List UInt8).length + (stuffB r).length := by simp [stuffB]
  rw [this]
  split <;> simp <;> omega
theorem stuff_snoc (l : List UInt8) (c : UInt8) : stuffB (l ++ [c]) = stuffB l ++ (if c = 0 then [0, 255] else [c]) := by simp [stuffB]
theorem take_snoc {l : List UInt8} {i : Nat} {c : UInt8} (h : l[i]? = some c) : l.take (i + 1) = l.take i ++ [c] := by
 rw [List.take_add_one, h]; rfl
theorem WBytes_ok (bs l : List UInt8) (hb : bs.length ≤ 900000000) (hl : l.length ≤ 10000000) :
  ECalls Tryz.prog 111 [Ptr 0, Bs l] [WO 1 bs, RO bs] fun y H' => H' = [some (WO 2 (bs ++ bytesB l)), none, some (RO (bs ++ bytesB l))] ∧ y = Ptr 0 := by
 refine ecalls k_WBytes ?_
 simp [c_WBytes, Bs, Ptr, WO, RO]
 refine eloop (α := Nat) (fun i => i ≤ l.length) (fun i => l.length - i)
  (fun i => [Ptr 0, xA, xA, xA, xA, xA, xA, xA, xA, Bs l, I .i64 l.length, I .i64 i, xA, xA, xA, xA, xA, xA, xA, xA, xA, xA, xA, xA, xA, xA, xA, xA, xA, xA, xA, xA, xA, xA, xA, xA, xA, xA, xA, xA, xA, xA, xA, xA, xA, xA, .any]) (fun i => [some (WO 2 (bs ++ stuffB (l.take i))), none, some (RO (bs ++ stuffB (l.take i)))]) 0 [0, 1, 1]
  (Nat.zero_le _) (by simp [Ptr, Bs, I]) (by simp [RO, WO, stuffB]) (by simp) (by decide) (by simp) ?_
 intro i hi
 have hle := stuff_len (l.take i)
 have hlt : (l.take i).length = i := by simp; omega
 simp [I, Bs, Ptr, WO, RO]
 refine alt (fun hp => ?_) (fun hp => ?_)
 ·obtain ⟨c, hc⟩ : ∃ c, l[i]? = some c := ⟨l[i], by simp [hp]⟩
  have hcb : (bsv l)[i]? = some (cb c) := by simp [bsv, hc]
  have hts := take_snoc hc
  simp [hcb, cb]
  refine ⟨by omega, alt (fun hz => ?_) (fun hz => ?_)⟩
  ·have hc0 : c = 0 := by apply UInt8.toNat_inj.1; simpa using hz
   have hst : stuffB (l.take (i + 1)) = stuffB (l.take i) ++ [0, 255] := by rw [hts, stuff_snoc, if_pos hc0]
   simp
   have w1 := wS (i := i) (by omega)
   simp [w1, -Int.natCast_add]
   refine ⟨by omega, round (i + 1) [0, 1, 371] (by omega) (by omega) ?_ ?_ (by simp) (by decide) (by simp)⟩
   ·simp [hst]
   ·subst hc0; simp [hst, bsv, cb]; omega
  ·have hc0 : c ≠ 0 := by rintro rfl; exact hz rfl
   have hst : stuffB (l.take (i + 1)) = stuffB (l.take i) ++ [c] := by rw [hts, stuff_snoc, if_neg hc0]
   have w1 := wS (i := i) (by omega)
   simp [w1, -Int.natCast_add]
   refine round (i + 1) [0, 1, 179] (by omega) (by omega) ?_ ?_ (by simp) (by decide) (by simp)
   ·simp [hst]
   ·simp [hst, bsv, cb]; omega
 ·have hil : i = l.length := by omega
  subst hil
  simp at hle
  simp
  exact ⟨by omega, fin [115] (by decide) rfl rfl rfl ⟨by simp [bytesB, bsv, cb]; omega, rfl⟩⟩
theorem WHash_ok (bs h : List UInt8) (hb : bs.length ≤ 900000000) (hl : h.length = 32) :
  ECalls Tryz.prog 85 [Ptr 0, Ag h] [WO 1 bs, RO bs] fun y H' => H' = [some (WO 2 (bs ++ h)), none, some (RO (bs ++ h))] ∧ y = Ptr 0 := by
 refine ecalls k_WHash ?_
 have ht : h.take 32 = h := List.tkL (by omega)
 simp [c_WHash, Ptr, WO, RO, Ag, ht]
 exact ⟨by omega, by omega, fin [162] (by decide) rfl rfl rfl ⟨by simp, rfl⟩⟩
theorem WDone_ok (bs : List UInt8) (hb : bs.length ≤ 1000000000) : ECalls Tryz.prog 86 [Ptr 0] [WO 1 bs, RO bs] fun y H' => H' = [some (WO 1 bs), some (RO bs), some (RO bs)] ∧ y = R 2 bs := by
 refine ecalls k_WDone ?_
 simp [c_WDone, Ptr, WO, RO]
 refine call0 (clone_ok bs hb) (by simp [Bs]) ?_
 rintro y H' ⟨rfl, rfl⟩
 refine ⟨.inr ⟨rfl, by simp [RO, noSlO, bsv, cb]⟩, le_ok rfl, ?_⟩
 simp [R, RO]
 exact fin [114] (by decide) rfl rfl rfl ⟨rfl, rfl⟩
def errV (e : Nat) : Value := if e = 0 then .nilIface else .iface 121 (.int .i64 e)
@[simp] theorem eqiv_errV (e : Nat) : eqiv (errV e) = some (decide (e = 0)) := by
 unfold errV
 split <;> simp [eqiv, *]
@[simp] theorem cst_errV (e : Nat) : cst (errV e) = .v (.c (.fz (.lit (errV e)))) := by
 unfold errV
 split <;> rfl
@[simp] theorem errV_0 : Value.nilIface = errV 0 := rfl
@[simp] theorem errV_1 : Value.iface 121 (.int .i64 1) = errV 1 := rfl
@[simp] theorem errV_2 : Value.iface 121 (.int .i64 2) = errV 2 := rfl
@[simp] theorem errV_3 : Value.iface 121 (.int .i64 3) = errV 3 := rfl
@[simp] theorem errV_4 : Value.iface 121 (.int .i64 4) = errV 4 := rfl
@[simp] theorem errV_12 : Value.iface 121 (.int .i64 12) = errV 12 := rfl
set_option linter.unusedVariables false
theorem drop_cons {α : Type} {b : List α} {i : Nat} {c : α} (h : b[i]? = some c) : b.drop i = c :: b.drop (i + 1) := by
 have hi : i < b.length := lt_len h
 rw [List.drop_eq_getElem_cons hi]
 congr 1
 rw [List.getElem?_eq_getElem hi] at h
 exact Option.some.inj h
def yl1d2 : UL | _ => [xM 6 2 8]
def yl1d3 : UL | _ => xM 0 3 0 :: xc 1 4 .eql 3 0 :: xM 2 5 4 :: yM 3 6 5 false 0 :: xG 4 7 5 false (.bin .eql (.t 6) (xK 1)) :: xP 5 8 5 7 :: hid yl1d2
def yb1d4 : UB | _ => .seq (reg0 [xQ 0 2 (.mov (.k (.bool false)))] 1) (.seq (reg0 (hid yl1d3) 7) .ret)
attribute [simp] yl1d2 yl1d3 yb1d4
def c_side : EB × List QOp × Nat := ((hid yb1d4), [(.mov (.t 2))], 9)
theorem k_side : cfun Tryz.prog 138 = some c_side := by kernel_rfl
def yl1d6 : UL | _ => [xR 6 11 8 10, xM 7 4 11]
def yl1d7 : UL | _ => xM 0 5 0 :: xM 1 6 1 :: xb 2 7 .geq 5 6 :: xM 3 8 7 :: yM 4 9 8 true 0 :: xG 5 10 8 true (.bin .leq (.t 9) (xK 1125899906842624)) :: hid yl1d6
def yb1d8 : UB | _ => .seq (reg0 [xQ 0 4 (.mov (.k (.bool false)))] 1) (.seq (reg0 (hid yl1d7) 8) .ret)
attribute [simp] yl1d6 yl1d7 yb1d8
def c_amount : EB × List QOp × Nat := ((hid yb1d8), [(.mov (.t 4))], 12)
theorem k_amount : cfun Tryz.prog 139 = some c_amount := by kernel_rfl
def yl1da : UL | _ => [xG 30 33 31 true (.lda 32 (.t 32)), xG 31 34 31 true (.build zU8 []), xG 32 35 31 true (.eqa true 32 .u8 (.t 33) (.t 34)), xR 33 36 31 35, xM 34 2 36]
def yl1db : UL | _ => yF 24 27 26 true 3 1 :: yL 25 28 26 true 27 :: xG 26 29 26 true (.bin .leq (.t 28) (xK 1099511627776)) :: xR 27 30 26 29 :: xM 28 31 30 :: yF 29 32 31 true 4 1 :: hid yl1da
def yl1dc : UL | _ => xM 18 21 20 :: yF 19 22 21 true 3 1 :: yL 20 23 21 true 22 :: xG 21 24 21 true (.bin .geq (.t 23) (xK 0)) :: xR 22 25 21 24 :: xM 23 26 25 :: hid yl1db
def yl1dd : UL | _ => xR 12 15 11 14 :: xM 13 16 15 :: yF 14 17 16 true 2 1 :: yL 15 18 16 true 17 :: ⟨16, (some 19), (some (16, true)), (.call 139 [.t 18, (xK 10)]), []⟩ :: xR 17 20 16 19 :: hid yl1dc
def yl1de : UL | _ => xG 6 9 6 true (.bin .leq (.t 8) (xK 4294967296)) :: xR 7 10 6 9 :: xM 8 11 10 :: yF 9 12 11 true 1 1 :: yL 10 13 11 true 12 :: ⟨11, (some 14), (some (11, true)), (.call 138 [.t 13]), []⟩ :: hid yl1dd
def yl1df : UL | _ => xF 0 3 0 1 :: xL 1 4 3 :: xc 2 5 .geq 4 0 :: xM 3 6 5 :: yF 4 7 6 true 0 1 :: yL 5 8 6 true 7 :: hid yl1de
def yb1dg : UB | _ => .seq (reg0 [xW 0 1 117 0, xQ 1 2 (.mov (.k (.bool false)))] 2) (.seq (reg0 (hid yl1df) 35) .ret)
attribute [simp] yl1da yl1db yl1dc yl1dd yl1de yl1df yb1dg
def c_Pmay : EB × List QOp × Nat := ((hid yb1dg), [(.mov (.t 2))], 37)
theorem k_Pmay : cfun Tryz.prog 140 = some c_Pmay := by kernel_rfl
def yl1dm : UL | _ => [xP 6 19 16 18]
def yl1dn : UL | _ => xM 0 13 5 :: xM 1 14 3 :: xb 2 15 .leq 13 14 :: xM 3 16 15 :: yM 4 17 16 false 5 :: xG 5 18 16 false (.bin .geq (.t 17) (xK 16)) :: hid yl1dm
def yb1dt : UB | _ => .seq (.cond (.t 10) .skip (.exit 0)) (.seq (.block 1 (.seq (reg0 [xI 0 11 1 7 9, xL 1 12 11, xM 2 5 12] 3) (.seq (.seq (reg0 (hid yl1dn) 7) (.cond (.t 19) (.seq (reg0 [xQ 0 2 (.mov (.k (.bool false)))] 1) .ret) .skip)) (reg0 [xM 0 20 5, xM 1 3 20] 2)))) (reg0 [xc 0 21 .add 9 1, xM 1 9 21] 2))
def yl1dv : UL | _ => [xR 18 40 35 39, xM 19 2 40]
def yl1dw : UL | _ => xR 12 34 30 33 :: xM 13 35 34 :: yF 14 36 35 true 2 1 :: yL 15 37 35 true 36 :: xG 16 38 35 true (.len (.t 37)) :: xG 17 39 35 true (.bin .geq (.t 38) (xK 1)) :: hid yl1dv
def yl1dx : UL | _ => xG 6 28 25 true (.bin .leq (.t 27) (xK 4294967296)) :: xR 7 29 25 28 :: xM 8 30 29 :: yF 9 31 30 true 1 1 :: yL 10 32 30 true 31 :: ⟨11, (some 33), (some (30, true)), (.call 139 [.t 32, (xK 10)]), []⟩ :: hid yl1dw
def yl1dy : UL | _ => xF 0 22 0 1 :: xL 1 23 22 :: xc 2 24 .geq 23 0 :: xM 3 25 24 :: yF 4 26 25 true 0 1 :: yL 5 27 25 true 26 :: hid yl1dx
def yb1e0 : UB | _ => .seq (reg0 [xW 0 1 119 0, xQ 1 2 (.mov (.k (.bool false)))] 2) (.seq (reg0 [xQ 0 3 (.mov (.k (.int .i64 (-1))))] 1) (.seq (.seq (reg0 [xF 0 6 2 1, xL 1 7 6, xE 2 8 7, xC 3 9 0] 4) (.block 0 (.loop (.seq (reg0 [xb 0 10 .lss 9 8] 1) (hid yb1dt))))) (.seq (reg0 (hid yl1dy) 20) .ret)))
attribute [simp] yl1dm yl1dn yb1dt yl1dv yl1dw yl1dx yl1dy yb1e0
def c_Hmay : EB × List QOp × Nat := ((hid yb1e0), [(.mov (.t 2))], 41)
theorem k_Hmay : cfun Tryz.prog 141 = some c_Hmay := by kernel_rfl
structure Pay where
 id : Int
 fr : Int
 am : Int
 af : Int
 lock : List UInt8
structure Hol where
 id : Int
 am : Int
 keys : List Int
structure Sta where
 num : Int
 h0 : Int
 h1 : Int
 pays : List Pay
 holds : List Hol
def i64 (n : Int) : Prop := -9223372036854775808 ≤ n ∧ n ≤ 9223372036854775807
def Pay.ok (p : Pay) : Prop := i64 p.id ∧ i64 p.fr ∧ i64 p.am ∧ i64 p.af ∧ p.lock.length = 32
def Hol.ok (h : Hol) : Prop := i64 h.id ∧ i64 h.am ∧ (∀ k ∈ h.keys, i64 k) ∧ h.keys.length ≤ 100000000
def Sta.ok (s : Sta) : Prop := i64 s.num ∧ i64 s.h0 ∧ i64 s.h1 ∧ (∀ p ∈ s.pays, p.ok) ∧ (∀ h ∈ s.holds, h.ok) ∧ s.pays.length ≤ 100000000 ∧ s.holds.length ≤ 100000000
def payF (p : Pay) : List FV := .lit (.int .i64 p.id) :: .lit (.int .i64 p.fr) :: .lit (.int .i64 p.am) :: .lit (.int .i64 p.af) :: hf p.lock
def intv (l : List Int) : List (List FV) := l.map fun k => [.lit (.int .i64 k)]
def holF (h : Hol) : List FV := [.lit (.int .i64 h.id), .lit (.int .i64 h.am), .sl 1 (intv h.keys)]
def payv (l : List Pay) : List (List FV) := l.map payF
def holv (l : List Hol) : List (List FV) := l.map holF
@[simp] theorem payv_len (l : List Pay) : (payv l).length = l.length := by simp [payv]
@[simp] theorem holv_len (l : List Hol) : (holv l).length = l.length := by simp [holv]
theorem payv_get {l : List Pay} {i : Nat} {p : Pay} (h : l[i]? = some p) : (payv l)[i]? = some (payF p) := by simp [payv, h]
theorem holv_get {l : List Hol} {i : Nat} {p : Hol} (h : l[i]? = some p) : (holv l)[i]? = some (holF p) := by simp [holv, h]
def payC (p : Pay) : List EC := .fz (.lit (.int .i64 p.id)) :: .fz (.lit (.int .i64 p.fr)) :: .fz (.lit (.int .i64 p.am)) :: .fz (.lit (.int .i64 p.af)) :: hc p.lock
def holC (h : Hol) : List EC := [.fz (.lit (.int .i64 h.id)), .fz (.lit (.int .i64 h.am)), .fz (.sl 1 (intv h.keys))]
def staC (s : Sta) : List EC := [.fz (.lit (.int .i64 s.num)), .fz (.lit (.int .i64 s.h0)), .fz (.lit (.int .i64 s.h1)), .fz (.sl 36 (payv s.pays)), .fz (.sl 3 (holv s.holds))]
def SV (s : Sta) : EV := .v (.agg (staC s))
theorem payF_fz (p : Pay) : (payF p).map EC.fz = payC p := by simp [payF, payC]
@[simp] theorem intv_len (l : List Int) : (intv l).length = l.length := by simp [intv]
def mayP (p : Pay) : Bool := decide (0 ≤ p.id ∧ p.id ≤ 4294967296 ∧ (p.fr = 0 ∨ p.fr = 1) ∧ 10 ≤ p.am ∧ p.am ≤ 1125899906842624 ∧ 0 ≤ p.af ∧ p.af ≤ 1099511627776 ∧ p.lock ≠ hz)
def keysS : Int → List Int → Bool
 | _, [] => true
 | last, k :: r => decide (last < k ∧ k < 16) && keysS k r
def mayH (h : Hol) : Bool := keysS (-1) h.keys && decide (0 ≤ h.id ∧ h.id ≤ 4294967296 ∧ 10 ≤ h.am ∧ h.am ≤ 1125899906842624 ∧ 1 ≤ h.keys.length)
def aft (o : Option Int) (n : Int) : Bool := match o with
 | none => true
 | some q => decide (q < n)
def payL : Option Int → List Pay → Bool
 | _, [] => true
 | o, p :: r => mayP p && aft o p.id && payL (some p.id) r
def holL : Option Int → List Hol → Bool
 | _, [] => true
 | o, h :: r => mayH h && aft o h.id && holL (some h.id) r
def sumP (l : List Pay) : Int := (l.map (·.am)).sum
def sumH (l : List Hol) : Int := (l.map (·.am)).sum
def total (s : Sta) : Int := s.h0 + s.h1 + sumP s.pays + sumH s.holds
def mayS (s : Sta) : Bool := decide (0 ≤ s.num ∧ s.num ≤ 1099511627776 ∧ 0 ≤ s.h0 ∧ s.h0 ≤ 1125899906842624 ∧ 0 ≤ s.h1 ∧ s.h1 ≤ 1125899906842624 ∧ s.pays.length ≤ 8 ∧ s.holds.length + s.pays.length ≤ 8) && payL none s.pays && holL none s.holds && decide (total s ≤ 1125899906842624)
theorem side_ok (n : Int) : ECalls Tryz.prog 138 [I .i64 n] [] fun y H' => H' = [] ∧ y = .lit (.bool (decide (n = 0 ∨ n = 1))) := by
 refine ecalls k_side ?_
 simp [c_side, I]
 by_cases h : n = 0
 ·simp [h]
  exact fin0
 ·simp [h]
  exact fin0
theorem amount_ok (n least : Int) : ECalls Tryz.prog 139 [I .i64 n, I .i64 least] [] fun y H' => H' = [] ∧ y = .lit (.bool (decide (least ≤ n ∧ n ≤ 1125899906842624))) := by
 refine ecalls k_amount ?_
 simp [c_amount, I]
 by_cases h : least ≤ n
 ·simp [h]
  exact fin0
 ·simp [h]
  exact fin0
theorem Pmay_ok (p : Pay) (hp : p.lock.length = 32) : ECalls Tryz.prog 140 [.v (.agg (payC p))] [] fun y H' => H' = [] ∧ y = .lit (.bool (mayP p)) := by
 have ht : p.lock.take 32 = p.lock := List.tkL (by omega)
 refine ecalls k_Pmay ?_
 simp [c_Pmay, payC, I, ht]
 refine alt (fun h1 => ?_) (fun h1 => ?_)
 rotate_left
 ·(first | simp [I, EV.lit, h1, Int.not_le.2 h1] | simp [I, EV.lit, h1, Int.not_lt.2 h1] | simp [I, EV.lit, h1, Int.not_lt.1 h1] | simp [I, EV.lit, h1, Int.not_le.1 h1] | simp [I, EV.lit, h1])
  exact fin [] (by decide) rfl rfl rfl ⟨rfl, by rw [show mayP p = false from decide_eq_false (by omega)]⟩
 (first | simp [I, EV.lit, h1, Int.not_le.2 h1] | simp [I, EV.lit, h1, Int.not_lt.2 h1] | simp [I, EV.lit, h1, Int.not_lt.1 h1] | simp [I, EV.lit, h1, Int.not_le.1 h1] | simp [I, EV.lit, h1])
 refine alt (fun h2 => ?_) (fun h2 => ?_)
 rotate_left
 ·(first | simp [I, EV.lit, h2, Int.not_le.2 h2] | simp [I, EV.lit, h2, Int.not_lt.2 h2] | simp [I, EV.lit, h2, Int.not_lt.1 h2] | simp [I, EV.lit, h2, Int.not_le.1 h2] | simp [I, EV.lit, h2])
  exact fin [] (by decide) rfl rfl rfl ⟨rfl, by rw [show mayP p = false from decide_eq_false (by omega)]⟩
 (first | simp [I, EV.lit, h2, Int.not_le.2 h2] | simp [I, EV.lit, h2, Int.not_lt.2 h2] | simp [I, EV.lit, h2, Int.not_lt.1 h2] | simp [I, EV.lit, h2, Int.not_le.1 h2] | simp [I, EV.lit, h2])
 refine call0 (side_ok p.fr) (by simp [I, EV.lit]) ?_
 rintro y H' ⟨rfl, rfl⟩
 refine ⟨.inl (by simp [I, EV.lit]), le_ok rfl, ?_⟩
 simp [EV.lit]
 refine alt (fun h3 => ?_) (fun h3 => ?_)
 rotate_left
 ·(first | simp [I, EV.lit, h3, Int.not_le.2 h3] | simp [I, EV.lit, h3, Int.not_lt.2 h3] | simp [I, EV.lit, h3, Int.not_lt.1 h3] | simp [I, EV.lit, h3, Int.not_le.1 h3] | simp [I, EV.lit, h3])
  exact fin [] (by decide) rfl rfl rfl ⟨rfl, by rw [show mayP p = false from decide_eq_false (by omega)]⟩
 (first | simp [I, EV.lit, h3, Int.not_le.2 h3] | simp [I, EV.lit, h3, Int.not_lt.2 h3] | simp [I, EV.lit, h3, Int.not_lt.1 h3] | simp [I, EV.lit, h3, Int.not_le.1 h3] | simp [I, EV.lit, h3])
 refine call0 (amount_ok p.am 10) (by simp [I, EV.lit]) ?_
 rintro y H' ⟨rfl, rfl⟩
 refine ⟨.inl (by simp [I, EV.lit]), le_ok rfl, ?_⟩
 simp [EV.lit]
 refine alt (fun h4 => ?_) (fun h4 => ?_)
 rotate_left
 ·(first | simp [I, EV.lit, h4, Int.not_le.2 h4] | simp [I, EV.lit, h4, Int.not_lt.2 h4] | simp [I, EV.lit, h4, Int.not_lt.1 h4] | simp [I, EV.lit, h4, Int.not_le.1 h4] | simp [I, EV.lit, h4])
  exact fin [] (by decide) rfl rfl rfl ⟨rfl, by rw [show mayP p = false from decide_eq_false (by omega)]⟩
 (first | simp [I, EV.lit, h4, Int.not_le.2 h4] | simp [I, EV.lit, h4, Int.not_lt.2 h4] | simp [I, EV.lit, h4, Int.not_lt.1 h4] | simp [I, EV.lit, h4, Int.not_le.1 h4] | simp [I, EV.lit, h4])
 refine alt (fun h5 => ?_) (fun h5 => ?_)
 rotate_left
 ·(first | simp [I, EV.lit, h5, Int.not_le.2 h5] | simp [I, EV.lit, h5, Int.not_lt.2 h5] | simp [I, EV.lit, h5, Int.not_lt.1 h5] | simp [I, EV.lit, h5, Int.not_le.1 h5] | simp [I, EV.lit, h5])
  exact fin [] (by decide) rfl rfl rfl ⟨rfl, by rw [show mayP p = false from decide_eq_false (by omega)]⟩
 (first | simp [I, EV.lit, h5, Int.not_le.2 h5] | simp [I, EV.lit, h5, Int.not_lt.2 h5] | simp [I, EV.lit, h5, Int.not_lt.1 h5] | simp [I, EV.lit, h5, Int.not_le.1 h5] | simp [I, EV.lit, h5])
 refine alt (fun h6 => ?_) (fun h6 => ?_)
 rotate_left
 ·(first | simp [I, EV.lit, h6, Int.not_le.2 h6] | simp [I, EV.lit, h6, Int.not_lt.2 h6] | simp [I, EV.lit, h6, Int.not_lt.1 h6] | simp [I, EV.lit, h6, Int.not_le.1 h6] | simp [I, EV.lit, h6])
  exact fin [] (by decide) rfl rfl rfl ⟨rfl, by rw [show mayP p = false from decide_eq_false (by omega)]⟩
 (first | simp [I, EV.lit, h6, Int.not_le.2 h6] | simp [I, EV.lit, h6, Int.not_lt.2 h6] | simp [I, EV.lit, h6, Int.not_lt.1 h6] | simp [I, EV.lit, h6, Int.not_le.1 h6] | simp [I, EV.lit, h6])
 refine alt (fun h7 => ?_) (fun h7 => ?_)
 rotate_left
 ·simp [h7]
  exact fin [] (by decide) rfl rfl rfl ⟨rfl, by rw [show mayP p = false from decide_eq_false (by omega)]⟩
 simp [h7, hp, ht]
 have hm : mayP p = !decide (p.lock = hz) := by
  by_cases e : p.lock = hz
  ·rw [show mayP p = false from decide_eq_false (fun h => h.2.2.2.2.2.2.2 e)]; simp [e]
  ·rw [show mayP p = true from decide_eq_true ⟨by omega, by omega, by omega, by omega, by omega, by omega, by omega, e⟩]; simp [e]
 exact fin [] (by decide) rfl rfl rfl ⟨rfl, by rw [hm]⟩
theorem mayH_f {h : Hol} (q : ¬ (0 ≤ h.id ∧ h.id ≤ 4294967296 ∧ 10 ≤ h.am ∧ h.am ≤ 1125899906842624 ∧ 1 ≤ h.keys.length)) : mayH h = false := by simp only [mayH, decide_eq_false q, Bool.and_false]
theorem intv_get {l : List Int} {i : Nat} {k : Int} (h : l[i]? = some k) : (intv l)[i]? = some [.lit (.int .i64 k)] := by simp [intv, h]
def IL (l : List Int) : EV := .v (.c (.fz (.sl 1 (intv l))))
theorem Hmay_ok (h : Hol) (hk : h.keys.length ≤ 100000000) : ECalls Tryz.prog 141 [.v (.agg (holC h))] [] fun y H' => H' = [] ∧ y = .lit (.bool (mayH h)) := by
 refine ecalls k_Hmay ?_
 simp [c_Hmay, holC]
 refine eloop (α := Nat × Int) (fun a => a.1 ≤ h.keys.length ∧ keysS (-1) h.keys = keysS a.2 (h.keys.drop a.1)) (fun a => h.keys.length - a.1)
  (fun a => [xA, Ptr 0, xA, I .i64 a.2, xA, xA, xA, IL h.keys, I .i64 h.keys.length, I .i64 a.1, xA, xA, xA, xA, xA, xA, xA, xA, xA, xA, xA, xA, xA, xA, xA, xA, xA, xA, xA, xA, xA, xA, xA, xA, xA, xA, xA, xA, xA, xA, .any]) (fun a => [some (.box 119 (holC h))]) (0, -1) [0]
  ⟨by simp, by simp⟩ (by simp [Ptr, I, IL]) (by simp [holC]) (by simp) (by simp) (by simp) ?_
 rintro ⟨i, last⟩ ⟨hi1, hi2⟩
 simp [Ptr, I, IL, holC] at hi1 hi2 ⊢
 refine alt (fun hlt => ?_) (fun hlt => ?_)
 ·obtain ⟨k, hc⟩ : ∃ k, h.keys[i]? = some k := ⟨h.keys[i], by simp [hlt]⟩
  have hcb := intv_get hc
  rw [drop_cons hc] at hi2
  have w1 := wS (i := i) (by omega)
  have hbad : ¬ (last < k ∧ k < 16) → mayH h = false := fun q => by simp only [mayH, hi2, keysS, decide_eq_false q, Bool.false_and]
  have hgood : last < k → k < 16 → keysS (-1) h.keys = keysS k (h.keys.drop (i + 1)) := fun q1 q2 => by rw [hi2, keysS, decide_eq_true ⟨q1, q2⟩, Bool.true_and]
  simp [hcb]
  refine alt (fun c1 => ?_) (fun c1 => ?_)
  rotate_left
  ·(first | simp [I, EV.lit, c1, Int.not_le.2 c1] | simp [I, EV.lit, c1, Int.not_lt.2 c1] | simp [I, EV.lit, c1, Int.not_lt.1 c1] | simp [I, EV.lit, c1, Int.not_le.1 c1] | simp [I, EV.lit, c1])
   exact fin [] (by decide) rfl rfl rfl ⟨rfl, by rw [hbad (by omega)]⟩
  (first | simp [I, EV.lit, c1, Int.not_le.2 c1] | simp [I, EV.lit, c1, Int.not_lt.2 c1] | simp [I, EV.lit, c1, Int.not_lt.1 c1] | simp [I, EV.lit, c1, Int.not_le.1 c1] | simp [I, EV.lit, c1])
  refine alt (fun c2 => ?_) (fun c2 => ?_)
  ·(first | simp [I, EV.lit, c2, Int.not_le.2 c2] | simp [I, EV.lit, c2, Int.not_lt.2 c2] | simp [I, EV.lit, c2, Int.not_lt.1 c2] | simp [I, EV.lit, c2, Int.not_le.1 c2] | simp [I, EV.lit, c2])
   exact fin [] (by decide) rfl rfl rfl ⟨rfl, by rw [hbad (by omega)]⟩
  (first | simp [I, EV.lit, c2, Int.not_le.2 c2, w1, -Int.natCast_add] | simp [I, EV.lit, c2, Int.not_lt.2 c2, w1, -Int.natCast_add] | simp [I, EV.lit, c2, Int.not_lt.1 c2, w1, -Int.natCast_add] | simp [I, EV.lit, c2, Int.not_le.1 c2, w1, -Int.natCast_add] | simp [I, EV.lit, c2, w1, -Int.natCast_add])
  exact round (i + 1, k) [0] ⟨by omega, hgood (by omega) (by omega)⟩ (by simp; omega) (by simp) (by simp) (by simp) (by simp) (by simp)
 ·have hd : h.keys.drop i = [] := by rw [List.drop_eq_nil_iff]; omega
  have hks : keysS (-1) h.keys = true := by rw [hi2, hd]; rfl
  simp
  refine alt (fun c1 => ?_) (fun c1 => ?_)
  rotate_left
  ·(first | simp [I, EV.lit, c1, Int.not_le.2 c1] | simp [I, EV.lit, c1, Int.not_lt.2 c1] | simp [I, EV.lit, c1, Int.not_lt.1 c1] | simp [I, EV.lit, c1, Int.not_le.1 c1] | simp [I, EV.lit, c1])
   exact fin [] (by decide) rfl rfl rfl ⟨rfl, by rw [mayH_f (by omega)]⟩
  (first | simp [I, EV.lit, c1, Int.not_le.2 c1] | simp [I, EV.lit, c1, Int.not_lt.2 c1] | simp [I, EV.lit, c1, Int.not_lt.1 c1] | simp [I, EV.lit, c1, Int.not_le.1 c1] | simp [I, EV.lit, c1])
  refine alt (fun c2 => ?_) (fun c2 => ?_)
  rotate_left
  ·(first | simp [I, EV.lit, c2, Int.not_le.2 c2] | simp [I, EV.lit, c2, Int.not_lt.2 c2] | simp [I, EV.lit, c2, Int.not_lt.1 c2] | simp [I, EV.lit, c2, Int.not_le.1 c2] | simp [I, EV.lit, c2])
   exact fin [] (by decide) rfl rfl rfl ⟨rfl, by rw [mayH_f (by omega)]⟩
  (first | simp [I, EV.lit, c2, Int.not_le.2 c2] | simp [I, EV.lit, c2, Int.not_lt.2 c2] | simp [I, EV.lit, c2, Int.not_lt.1 c2] | simp [I, EV.lit, c2, Int.not_le.1 c2] | simp [I, EV.lit, c2])
  refine call0 (amount_ok h.am 10) (by simp [I, EV.lit]) ?_
  rintro y H' ⟨rfl, rfl⟩
  refine ⟨.inl (by simp [I, EV.lit]), le_ok rfl, ?_⟩
  simp [EV.lit]
  refine alt (fun c3 => ?_) (fun c3 => ?_)
  rotate_left
  ·(first | simp [I, EV.lit, c3, Int.not_le.2 c3] | simp [I, EV.lit, c3, Int.not_lt.2 c3] | simp [I, EV.lit, c3, Int.not_lt.1 c3] | simp [I, EV.lit, c3, Int.not_le.1 c3] | simp [I, EV.lit, c3])
   exact fin [] (by decide) rfl rfl rfl ⟨rfl, by rw [mayH_f (by omega)]⟩
  (first | simp [I, EV.lit, c3, Int.not_le.2 c3] | simp [I, EV.lit, c3, Int.not_lt.2 c3] | simp [I, EV.lit, c3, Int.not_lt.1 c3] | simp [I, EV.lit, c3, Int.not_le.1 c3] | simp [I, EV.lit, c3])
  by_cases q : 1 ≤ h.keys.length
  ·have hm : mayH h = true := by
    simp only [mayH, hks, Bool.true_and]
    exact decide_eq_true ⟨by omega, by omega, by omega, by omega, q⟩
   exact fin [] (by decide) rfl rfl rfl ⟨rfl, litB (by rw [hm]; exact decide_eq_true (by omega))⟩
  ·exact fin [] (by decide) rfl rfl rfl ⟨rfl, litB (by rw [mayH_f (by omega)]; exact decide_eq_false (by omega))⟩
def yl1e2 : UL | _ => [xG 36 44 36 false (.bin .gtr (.t 39) (.t 43)), xP 37 45 36 44]
def yl1e3 : UL | _ => yL 30 38 36 false 37 :: xG 31 39 36 false (.len (.t 38)) :: yF 32 40 36 false 3 1 :: yL 33 41 36 false 40 :: xG 34 42 36 false (.len (.t 41)) :: xG 35 43 36 false (.bin .sub (xK 8) (.t 42)) :: hid yl1e2
def yl1e4 : UL | _ => yL 24 32 30 false 31 :: xG 25 33 30 false (.len (.t 32)) :: xG 26 34 30 false (.bin .gtr (.t 33) (xK 8)) :: xP 27 35 30 34 :: xM 28 36 35 :: yF 29 37 36 false 4 1 :: hid yl1e3
def yl1e5 : UL | _ => yL 18 26 23 false 25 :: ⟨19, (some 27), (some (23, false)), (.call 139 [.t 26, (xK 0)]), []⟩ :: xG 20 28 23 false (.un .not (.t 27)) :: xP 21 29 23 28 :: xM 22 30 29 :: yF 23 31 30 false 3 1 :: hid yl1e4
def yl1e6 : UL | _ => ⟨12, (some 20), (some (16, false)), (.call 139 [.t 19, (xK 0)]), []⟩ :: xG 13 21 16 false (.un .not (.t 20)) :: xP 14 22 16 21 :: xM 15 23 22 :: yF 16 24 23 false 1 1 :: xG 17 25 23 false (.iad 2 1 (.t 24) (xK 1)) :: hid yl1e5
def yl1e7 : UL | _ => xG 6 14 11 false (.bin .gtr (.t 13) (xK 1099511627776)) :: xP 7 15 11 14 :: xM 8 16 15 :: yF 9 17 16 false 1 1 :: xG 10 18 16 false (.iad 2 1 (.t 17) (xK 0)) :: yL 11 19 16 false 18 :: hid yl1e6
def yl1e8 : UL | _ => xF 0 8 0 1 :: xL 1 9 8 :: xc 2 10 .lss 9 0 :: xM 3 11 10 :: yF 4 12 11 false 0 1 :: yL 5 13 11 false 12 :: hid yl1e7
def yl1eb : UL | _ => [xb 6 52 .add 48 51, xM 7 3 52]
def yl1ec : UL | _ => xF 0 46 1 1 :: xQ 1 47 (.iad 2 1 (.t 46) (xK 0)) :: xL 2 48 47 :: xF 3 49 1 1 :: xQ 4 50 (.iad 2 1 (.t 49) (xK 1)) :: xL 5 51 50 :: hid yl1eb
def yl1ef : UL | _ => [xM 0 58 56, xI 1 59 36 54 56, xD 2 60 36 59, xQ 3 5 (.alloc 117 (([xZ, xZ, xZ, xZ] : List Value) ++ zU8)), xM 4 4 58, xN 5 (.sto 36 (.t 5) (.t 60))]
def yl1eg : UL | _ => [xP 18 79 64 78]
def yl1eh : UL | _ => yF 12 73 67 true 0 72 :: yL 13 74 67 true 73 :: yF 14 75 67 true 0 5 :: yL 15 76 67 true 75 :: xG 16 77 67 true (.bin .geq (.t 74) (.t 76)) :: xG 17 78 64 false (.pick (.t 67) (.t 77) (.k (.bool false))) :: hid yl1eg
def yl1ei : UL | _ => yM 6 67 64 false 66 :: yF 7 68 67 true 3 1 :: yL 8 69 67 true 68 :: yM 9 70 67 true 4 :: xG 10 71 67 true (.bin .sub (.t 70) (xK 1)) :: xG 11 72 67 true (.isl 36 (.t 69) (.t 71)) :: hid yl1eh
def yl1ej : UL | _ => xD 0 61 36 5 :: xO 1 62 (.call 140 [.t 61]) :: xQ 2 63 (.un .not (.t 62)) :: xM 3 64 63 :: yM 4 65 64 false 4 :: xG 5 66 64 false (.bin .gtr (.t 65) (xK 0)) :: hid yl1ei
def yl1em : UL | _ => [xM 0 80 3, xF 1 81 2 5, xL 2 82 81, xb 3 83 .add 80 82, xM 4 3 83]
def yb1ep : UB | _ => .seq (.cond (.t 57) .skip (.exit 0)) (.seq (.block 1 (.seq (reg0 (hid yl1ef) 6) (.seq (.seq (reg0 (hid yl1ej) 19) (.cond (.t 79) (.seq (reg0 [xQ 0 2 (.mov (.k (.bool false)))] 1) .ret) .skip)) (reg0 (hid yl1em) 5)))) (reg0 [xc 0 84 .add 56 1, xM 1 56 84] 2))
def yb1eq : UB | _ => .seq (reg0 [xF 0 53 3 1, xL 1 54 53, xE 2 55 54, xC 3 56 0] 4) (.block 0 (.loop (.seq (reg0 [xb 0 57 .lss 56 55] 1) (hid yb1ep))))
def yl1et : UL | _ => [xM 0 90 88, xI 1 91 3 86 88, xD 2 92 3 91, xQ 3 7 (.alloc 119 [xZ, xZ, xS]), xM 4 6 90, xN 5 (.fz (.sto 3 (.t 7) (.t 92)))]
def yl1eu : UL | _ => [xP 18 111 96 110]
def yl1ev : UL | _ => yF 12 105 99 true 0 104 :: yL 13 106 99 true 105 :: yF 14 107 99 true 0 7 :: yL 15 108 99 true 107 :: xG 16 109 99 true (.bin .geq (.t 106) (.t 108)) :: xG 17 110 96 false (.pick (.t 99) (.t 109) (.k (.bool false))) :: hid yl1eu
def yl1ew : UL | _ => yM 6 99 96 false 98 :: yF 7 100 99 true 4 1 :: yL 8 101 99 true 100 :: yM 9 102 99 true 6 :: xG 10 103 99 true (.bin .sub (.t 102) (xK 1)) :: xG 11 104 99 true (.isl 3 (.t 101) (.t 103)) :: hid yl1ev
def yl1ex : UL | _ => xD 0 93 3 7 :: xO 1 94 (.call 141 [.t 93]) :: xQ 2 95 (.un .not (.t 94)) :: xM 3 96 95 :: yM 4 97 96 false 6 :: xG 5 98 96 false (.bin .gtr (.t 97) (xK 0)) :: hid yl1ew
def yl1f0 : UL | _ => [xM 0 112 3, xF 1 113 1 7, xL 2 114 113, xb 3 115 .add 112 114, xM 4 3 115]
def yb1f3 : UB | _ => .seq (.cond (.t 89) .skip (.exit 2)) (.seq (.block 3 (.seq (reg0 (hid yl1et) 6) (.seq (.seq (reg0 (hid yl1ex) 19) (.cond (.t 111) (.seq (reg0 [xQ 0 2 (.mov (.k (.bool false)))] 1) .ret) .skip)) (reg0 (hid yl1f0) 5)))) (reg0 [xc 0 116 .add 88 1, xM 1 88 116] 2))
def yb1f6 : UB | _ => .seq (hid yb1eq) (.seq (.seq (reg0 [xF 0 85 4 1, xL 1 86 85, xE 2 87 86, xC 3 88 0] 4) (.block 2 (.loop (.seq (reg0 [xb 0 89 .lss 88 87] 1) (hid yb1f3))))) (.seq (reg0 [xM 0 117 3, xc 1 118 .leq 117 1125899906842624, xM 2 2 118] 3) .ret))
def yb1f7 : UB | _ => .seq (reg0 [xW 0 1 42 0, xQ 1 2 (.mov (.k (.bool false)))] 2) (.seq (.seq (reg0 (hid yl1e8) 38) (.cond (.t 45) (.seq (reg0 [xQ 0 2 (.mov (.k (.bool false)))] 1) .ret) .skip)) (.seq (reg0 (hid yl1ec) 8) (hid yb1f6)))
attribute [simp] yl1e2 yl1e3 yl1e4 yl1e5 yl1e6 yl1e7 yl1e8 yl1eb yl1ec yl1ef yl1eg yl1eh yl1ei yl1ej yl1em yb1ep yb1eq yl1et yl1eu yl1ev yl1ew yl1ex yl1f0 yb1f3 yb1f6 yb1f7
def c_Smay : EB × List QOp × Nat := ((hid yb1f7), [(.mov (.t 2))], 119)
theorem k_Smay : cfun Tryz.prog 95 = some c_Smay := by kernel_rfl
theorem mayS_f {s : Sta} (q : ¬ (0 ≤ s.num ∧ s.num ≤ 1099511627776 ∧ 0 ≤ s.h0 ∧ s.h0 ≤ 1125899906842624 ∧ 0 ≤ s.h1 ∧ s.h1 ≤ 1125899906842624 ∧ s.pays.length ≤ 8 ∧ s.holds.length + s.pays.length ≤ 8)) : mayS s = false := by simp only [mayS, decide_eq_false q, Bool.false_and]
theorem mayS_p {s : Sta} (q : payL none s.pays = false) : mayS s = false := by simp only [mayS, q, Bool.and_false, Bool.false_and]
theorem mayS_h {s : Sta} (q : holL none s.holds = false) : mayS s = false := by simp only [mayS, q, Bool.and_false, Bool.false_and]
def prevP (l : List Pay) (i : Nat) : Option Int := if i = 0 then none else (l[i - 1]?).map (·.id)
def prevH (l : List Hol) (i : Nat) : Option Int := if i = 0 then none else (l[i - 1]?).map (·.id)
def PL (l : List Pay) : EV := .v (.c (.fz (.sl 36 (payv l))))
def HL (l : List Hol) : EV := .v (.c (.fz (.sl 3 (holv l))))
theorem sumP_snoc (l : List Pay) (p : Pay) : sumP (l ++ [p]) = sumP l + p.am := by simp [sumP]
theorem sumH_snoc (l : List Hol) (p : Hol) : sumH (l ++ [p]) = sumH l + p.am := by simp [sumH]
theorem take_s {α : Type} {l : List α} {i : Nat} {c : α} (h : l[i]? = some c) : l.take (i + 1) = l.take i ++ [c] := by rw [List.take_add_one, h]; rfl
theorem mayP_am {p : Pay} (h : mayP p = true) : 10 ≤ p.am ∧ p.am ≤ 1125899906842624 := by
 have := of_decide_eq_true h
 omega
theorem mayH_am {p : Hol} (h : mayH p = true) : 10 ≤ p.am ∧ p.am ≤ 1125899906842624 := by
 simp only [mayH, Bool.and_eq_true, decide_eq_true_eq] at h
 omega
theorem Smay_ok (s : Sta) (hs : s.ok) : ECalls Tryz.prog 95 [SV s] [] fun y H' => H' = [] ∧ y = .lit (.bool (mayS s)) := by
 obtain ⟨ok1, ok2, ok3, ok4, ok5, ok6, ok7⟩ := hs
 refine ecalls k_Smay ?_
 simp [c_Smay, SV, staC]
 refine alt (fun a1 => ?_) (fun a1 => ?_)
 rotate_left
 ·(first | simp [I, EV.lit, a1, Int.not_le.2 a1] | simp [I, EV.lit, a1, Int.not_lt.2 a1] | simp [I, EV.lit, a1, Int.not_lt.1 a1] | simp [I, EV.lit, a1, Int.not_le.1 a1] | simp [I, EV.lit, a1])
  exact fin [] (by decide) rfl rfl rfl ⟨rfl, by rw [mayS_f (by omega)]⟩
 (first | simp [I, EV.lit, a1, Int.not_le.2 a1] | simp [I, EV.lit, a1, Int.not_lt.2 a1] | simp [I, EV.lit, a1, Int.not_lt.1 a1] | simp [I, EV.lit, a1, Int.not_le.1 a1] | simp [I, EV.lit, a1])
 refine alt (fun a2 => ?_) (fun a2 => ?_)
 rotate_left
 ·(first | simp [I, EV.lit, a2, Int.not_le.2 a2] | simp [I, EV.lit, a2, Int.not_lt.2 a2] | simp [I, EV.lit, a2, Int.not_lt.1 a2] | simp [I, EV.lit, a2, Int.not_le.1 a2] | simp [I, EV.lit, a2])
  exact fin [] (by decide) rfl rfl rfl ⟨rfl, by rw [mayS_f (by omega)]⟩
 (first | simp [I, EV.lit, a2, Int.not_le.2 a2] | simp [I, EV.lit, a2, Int.not_lt.2 a2] | simp [I, EV.lit, a2, Int.not_lt.1 a2] | simp [I, EV.lit, a2, Int.not_le.1 a2] | simp [I, EV.lit, a2])
 refine call0 (amount_ok s.h0 0) (by simp [I, EV.lit]) ?_
 rintro y H' ⟨rfl, rfl⟩
 refine ⟨.inl (by simp [I, EV.lit]), le_ok rfl, ?_⟩
 cases hb3 : decide (0 ≤ s.h0 ∧ s.h0 ≤ 1125899906842624)
 ·have a3 := of_decide_eq_false hb3
  simp [EV.lit]
  exact fin [] (by decide) rfl rfl rfl ⟨rfl, by rw [mayS_f (by omega)]⟩
 have a3 := of_decide_eq_true hb3
 simp [EV.lit]
 refine call0 (amount_ok s.h1 0) (by simp [I, EV.lit]) ?_
 rintro y H' ⟨rfl, rfl⟩
 refine ⟨.inl (by simp [I, EV.lit]), le_ok rfl, ?_⟩
 cases hb4 : decide (0 ≤ s.h1 ∧ s.h1 ≤ 1125899906842624)
 ·have a4 := of_decide_eq_false hb4
  simp [EV.lit]
  exact fin [] (by decide) rfl rfl rfl ⟨rfl, by rw [mayS_f (by omega)]⟩
 have a4 := of_decide_eq_true hb4
 simp [EV.lit]
 refine alt (fun a5 => ?_) (fun a5 => ?_)
 rotate_left
 ·(first | simp [I, EV.lit, a5, Int.not_le.2 a5] | simp [I, EV.lit, a5, Int.not_lt.2 a5] | simp [I, EV.lit, a5, Int.not_lt.1 a5] | simp [I, EV.lit, a5, Int.not_le.1 a5] | simp [I, EV.lit, a5])
  exact fin [] (by decide) rfl rfl rfl ⟨rfl, by rw [mayS_f (by omega)]⟩
 (first | simp [I, EV.lit, a5, Int.not_le.2 a5] | simp [I, EV.lit, a5, Int.not_lt.2 a5] | simp [I, EV.lit, a5, Int.not_lt.1 a5] | simp [I, EV.lit, a5, Int.not_le.1 a5] | simp [I, EV.lit, a5])
 have w0 : IntKind.i64.wrap (8 - (s.pays.length : Int)) = 8 - (s.pays.length : Int) := wrap_i64 (by omega) (by omega)
 have w1 : IntKind.i64.wrap (s.h0 + s.h1) = s.h0 + s.h1 := wrap_i64 (by omega) (by omega)
 rw [w0]
 refine alt (fun a6 => ?_) (fun a6 => ?_)
 ·simp
  exact fin [] (by decide) rfl rfl rfl ⟨rfl, by rw [mayS_f (by omega)]⟩
 simp [w1]
 refine eloop (α := Nat × Int) (fun a => a.1 ≤ s.pays.length ∧ payL none s.pays = payL (prevP s.pays a.1) (s.pays.drop a.1) ∧ a.2 = s.h0 + s.h1 + sumP (s.pays.take a.1) ∧ 0 ≤ a.2 ∧ a.2 ≤ 2251799813685248 + (a.1 : Int) * 1125899906842624) (fun a => s.pays.length - a.1)
  (fun a => [xA, Ptr 0, xA, I .i64 a.2, xA, xA, xA, xA, xA, xA, xA, xA, xA, xA, xA, xA, xA, xA, xA, xA, xA, xA, xA, xA, xA, xA, xA, xA, xA, xA, xA, xA, xA, xA, xA, xA, xA, xA, xA, xA, xA, xA, xA, xA, xA, xA, xA, xA, xA, xA, xA, xA, xA, xA, PL s.pays, I .i64 s.pays.length, I .i64 a.1, xA, xA, xA, xA, xA, xA, xA, xA, xA, xA, xA, xA, xA, xA, xA, xA, xA, xA, xA, xA, xA, xA, xA, xA, xA, xA, xA, xA, xA, xA, xA, xA, xA, xA, xA, xA, xA, xA, xA, xA, xA, xA, xA, xA, xA, xA, xA, xA, xA, xA, xA, xA, xA, xA, xA, xA, xA, xA, xA, xA, xA, .any]) (fun a => [some (.box 42 (staC s))]) (0, s.h0 + s.h1) [0]
  ⟨by simp, by simp [prevP], by simp [sumP], by simp; omega, by simp; omega⟩ (by simp [Ptr, I, PL]) (by simp [staC]) (by simp) (by simp) (by simp) ?_
 rintro ⟨i, n⟩ ⟨hi1, hi2, hi3, hi4, hi5⟩
 simp [Ptr, I, PL, staC] at hi1 hi2 hi3 hi4 hi5 ⊢
 refine alt (fun hlt => ?_) (fun hlt => ?_)
 ·obtain ⟨p, hc⟩ : ∃ p, s.pays[i]? = some p := ⟨s.pays[i], by simp [hlt]⟩
  have hpo := ok4 p (List.mgE hc)
  have hl32 := hpo.2.2.2.2
  have ht : p.lock.take 32 = p.lock := List.tkL (by omega)
  have hcb := payv_get hc
  rw [drop_cons hc] at hi2
  have w2 := wS (i := i) (by omega)
  have w3 : IntKind.i64.wrap ((i : Int) - 1) = (i : Int) - 1 := wrap_i64 (by omega) (by omega)
  simp [hcb, payF, hl32, ht]
  refine call0 (Pmay_ok p hl32) (by simp [payC]) ?_
  rintro y H' ⟨rfl, rfl⟩
  refine ⟨.inl (by simp), le_ok rfl, ?_⟩
  cases hm : mayP p
  ·simp [EV.lit]
   exact fin [] (by decide) rfl rfl rfl ⟨rfl, by rw [mayS_p (by rw [hi2, payL, hm]; simp)]⟩
  have ham := mayP_am hm
  have w4 : IntKind.i64.wrap (n + p.am) = n + p.am := wrap_i64 (by omega) (by omega)
  have hnx : ∀ (q : aft (prevP s.pays i) p.id = true), payL none s.pays = payL (prevP s.pays (i + 1)) (s.pays.drop (i + 1)) := by
   intro q
   rw [hi2, payL, hm, q]
   simp [prevP, hc]
  have hsum : n + p.am = s.h0 + s.h1 + sumP (s.pays.take (i + 1)) := by rw [take_s hc, sumP_snoc]; omega
  simp [EV.lit]
  refine alt (fun h0 => ?_) (fun h0 => ?_)
  ·obtain ⟨q, hq⟩ : ∃ q, s.pays[i - 1]? = some q := ⟨s.pays[i - 1]'(by omega), by simp⟩
   have hqb := payv_get hq
   have hti : ((i : Int) - 1).toNat = i - 1 := by omega
   have hpv : prevP s.pays i = some q.id := by simp [prevP, hq, show i ≠ 0 by omega]
   have h1 : (1 : Int) ≤ (i : Int) := by omega
   simp [h0, w3, hqb, hti, payF, h1]
   refine alt (fun c1 => ?_) (fun c1 => ?_)
   ·simp
    exact fin [] (by decide) rfl rfl rfl ⟨rfl, by rw [mayS_p (by rw [hi2, payL, hm, hpv]; simp [aft, decide_eq_false (show ¬ q.id < p.id by omega)])]⟩
   simp [w2, w4, -Int.natCast_add]
   exact round (i + 1, n + p.am) [0] ⟨by omega, hnx (by rw [hpv]; exact decide_eq_true (by omega)), hsum, by simp; omega, by simp; omega⟩ (by simp; omega) (by simp) (by simp) (by simp) (by simp) (by simp)
  ·have hi0 : i = 0 := by omega
   subst hi0
   simp [w4, IntKind.wrap_i64]
   exact round (1, n + p.am) [0] ⟨by omega, hnx (by simp [prevP, aft]), hsum, by simp; omega, by simp; omega⟩ (by simp; omega) (by simp) (by simp) (by simp) (by simp) (by simp)
 have hil : i = s.pays.length := by omega
 subst hil
 have hps : payL none s.pays = true := by rw [hi2]; simp [payL]
 rw [List.take_length] at hi3
 simp
 refine eloop (α := Nat × Int) (fun a => a.1 ≤ s.holds.length ∧ holL none s.holds = holL (prevH s.holds a.1) (s.holds.drop a.1) ∧ a.2 = s.h0 + s.h1 + sumP s.pays + sumH (s.holds.take a.1) ∧ 0 ≤ a.2 ∧ a.2 ≤ 22517998136852480 + (a.1 : Int) * 1125899906842624) (fun a => s.holds.length - a.1)
  (fun a => [xA, Ptr 0, xA, I .i64 a.2, xA, xA, xA, xA, xA, xA, xA, xA, xA, xA, xA, xA, xA, xA, xA, xA, xA, xA, xA, xA, xA, xA, xA, xA, xA, xA, xA, xA, xA, xA, xA, xA, xA, xA, xA, xA, xA, xA, xA, xA, xA, xA, xA, xA, xA, xA, xA, xA, xA, xA, xA, xA, xA, xA, xA, xA, xA, xA, xA, xA, xA, xA, xA, xA, xA, xA, xA, xA, xA, xA, xA, xA, xA, xA, xA, xA, xA, xA, xA, xA, xA, xA, HL s.holds, I .i64 s.holds.length, I .i64 a.1, xA, xA, xA, xA, xA, xA, xA, xA, xA, xA, xA, xA, xA, xA, xA, xA, xA, xA, xA, xA, xA, xA, xA, xA, xA, xA, xA, xA, xA, .any]) (fun a => [some (.box 42 (staC s))]) (0, n) [0]
  ⟨by simp, by simp [prevH], by simp [sumH]; omega, hi4, by simp; omega⟩ (by simp [Ptr, I, HL]) (by simp [staC]) (by simp) (by simp) (by simp) ?_
 clear hi1 hi2 hi3 hi4 hi5 hlt
 clear n
 rintro ⟨i, n⟩ ⟨hi1, hi2, hi3, hi4, hi5⟩
 simp [Ptr, I, HL, staC] at hi1 hi2 hi3 hi4 hi5 ⊢
 refine alt (fun hlt => ?_) (fun hlt => ?_)
 ·obtain ⟨p, hc⟩ : ∃ p, s.holds[i]? = some p := ⟨s.holds[i], by simp [hlt]⟩
  have hpo := ok5 p (List.mgE hc)
  have hcb := holv_get hc
  rw [drop_cons hc] at hi2
  have w2 := wS (i := i) (by omega)
  have w3 : IntKind.i64.wrap ((i : Int) - 1) = (i : Int) - 1 := wrap_i64 (by omega) (by omega)
  simp [hcb, holF]
  refine call0 (Hmay_ok p hpo.2.2.2) (by simp [holC]) ?_
  rintro y H' ⟨rfl, rfl⟩
  refine ⟨.inl (by simp), le_ok rfl, ?_⟩
  cases hm : mayH p
  ·simp [EV.lit]
   exact fin [] (by decide) rfl rfl rfl ⟨rfl, by rw [mayS_h (by rw [hi2, holL, hm]; simp)]⟩
  have ham := mayH_am hm
  have w4 : IntKind.i64.wrap (n + p.am) = n + p.am := wrap_i64 (by omega) (by omega)
  have hnx : ∀ (q : aft (prevH s.holds i) p.id = true), holL none s.holds = holL (prevH s.holds (i + 1)) (s.holds.drop (i + 1)) := by
   intro q
   rw [hi2, holL, hm, q]
   simp [prevH, hc]
  have hsum : n + p.am = s.h0 + s.h1 + sumP s.pays + sumH (s.holds.take (i + 1)) := by rw [take_s hc, sumH_snoc]; omega
  simp [EV.lit]
  refine alt (fun h0 => ?_) (fun h0 => ?_)
  ·obtain ⟨q, hq⟩ : ∃ q, s.holds[i - 1]? = some q := ⟨s.holds[i - 1]'(by omega), by simp⟩
   have hqb := holv_get hq
   have hti : ((i : Int) - 1).toNat = i - 1 := by omega
   have hpv : prevH s.holds i = some q.id := by simp [prevH, hq, show i ≠ 0 by omega]
   have h1 : (1 : Int) ≤ (i : Int) := by omega
   simp [h0, w3, hqb, hti, holF, h1]
   refine alt (fun c1 => ?_) (fun c1 => ?_)
   ·simp
    exact fin [] (by decide) rfl rfl rfl ⟨rfl, by rw [mayS_h (by rw [hi2, holL, hm, hpv]; simp [aft, decide_eq_false (show ¬ q.id < p.id by omega)])]⟩
   simp [w2, w4, -Int.natCast_add]
   exact round (i + 1, n + p.am) [0] ⟨by omega, hnx (by rw [hpv]; exact decide_eq_true (by omega)), hsum, by simp; omega, by simp; omega⟩ (by simp; omega) (by simp) (by simp) (by simp) (by simp) (by simp)
  ·have hi0 : i = 0 := by omega
   subst hi0
   simp [w4, IntKind.wrap_i64]
   exact round (1, n + p.am) [0] ⟨by omega, hnx (by simp [prevH, aft]), hsum, by simp; omega, by simp; omega⟩ (by simp; omega) (by simp) (by simp) (by simp) (by simp) (by simp)
 have hil : i = s.holds.length := by omega
 subst hil
 have hhs : holL none s.holds = true := by rw [hi2]; simp [holL]
 rw [List.take_length] at hi3
 have hS : mayS s = decide (n ≤ 1125899906842624) := by
  simp only [mayS, hps, hhs, Bool.and_true]
  rw [decide_eq_true (show 0 ≤ s.num ∧ s.num ≤ 1099511627776 ∧ 0 ≤ s.h0 ∧ s.h0 ≤ 1125899906842624 ∧ 0 ≤ s.h1 ∧ s.h1 ≤ 1125899906842624 ∧ s.pays.length ≤ 8 ∧ s.holds.length + s.pays.length ≤ 8 by omega), Bool.true_and, hi3]
  rfl
 simp
 exact fin [] (by decide) rfl rfl rfl ⟨rfl, by rw [hS]⟩
def yl1f9 : UL | _ => [xD 0 8 5 1, xO 1 9 (.call 95 [.t 8]), xQ 2 10 (.un .not (.t 9))]
def yl1fc : UL | _ => [xb 6 17 .add 13 16, xM 7 3 17]
def yl1fd : UL | _ => xF 0 11 1 1 :: xQ 1 12 (.iad 2 1 (.t 11) (xK 0)) :: xL 2 13 12 :: xF 3 14 1 1 :: xQ 4 15 (.iad 2 1 (.t 14) (xK 1)) :: xL 5 16 15 :: hid yl1fc
def yl1fg : UL | _ => [xI 0 23 36 19 21, xD 1 24 36 23, xQ 2 5 (.alloc 117 (([xZ, xZ, xZ, xZ] : List Value) ++ zU8)), xN 3 (.sto 36 (.t 5) (.t 24))]
def yl1fh : UL | _ => [xM 0 25 3, xF 1 26 2 5, xL 2 27 26, xb 3 28 .add 25 27, xM 4 3 28]
def yl1fn : UL | _ => [xI 0 35 3 31 33, xD 1 36 3 35, xQ 2 7 (.alloc 119 [xZ, xZ, xS]), xN 3 (.fz (.sto 3 (.t 7) (.t 36)))]
def yl1fo : UL | _ => [xM 0 37 3, xF 1 38 1 7, xL 2 39 38, xb 3 40 .add 37 39, xM 4 3 40]
def yb1fr : UB | _ => .seq (reg0 [xb 0 34 .lss 33 32] 1) (.seq (.cond (.t 34) .skip (.exit 2)) (.seq (.block 3 (.seq (reg0 (hid yl1fn) 4) (reg0 (hid yl1fo) 5))) (reg0 [xc 0 41 .add 33 1, xM 1 33 41] 2)))
def yb1ft : UB | _ => .seq (.seq (reg0 [xF 0 30 4 1, xL 1 31 30, xE 2 32 31, xC 3 33 0] 4) (.block 2 (.loop (hid yb1fr)))) (.seq (reg0 [xM 0 42 3, xM 1 2 42] 2) .ret)
def yb1fu : UB | _ => .seq (.seq (reg0 [xF 0 18 3 1, xL 1 19 18, xE 2 20 19, xC 3 21 0] 4) (.block 0 (.loop (.seq (reg0 [xb 0 22 .lss 21 20] 1) (.seq (.cond (.t 22) .skip (.exit 0)) (.seq (.block 1 (.seq (reg0 (hid yl1fg) 4) (reg0 (hid yl1fh) 5))) (reg0 [xc 0 29 .add 21 1, xM 1 21 29] 2))))))) (hid yb1ft)
def yb1fv : UB | _ => .seq (reg0 [xW 0 1 42 0, xC 1 2 0] 2) (.seq (.seq (reg0 (hid yl1f9) 3) (.cond (.t 10) (.seq (reg0 [xC 0 2 0] 1) .ret) .skip)) (.seq (reg0 (hid yl1fd) 8) (hid yb1fu)))
attribute [simp] yl1f9 yl1fc yl1fd yl1fg yl1fh yl1fn yl1fo yb1fr yb1ft yb1fu yb1fv
def c_Total : EB × List QOp × Nat := ((hid yb1fv), [(.mov (.t 2))], 43)
theorem k_Total : cfun Tryz.prog 50 = some c_Total := by kernel_rfl
def yl1g0 : UL | _ => [xQ 0 5 (.bsr 117 36 (([xZ, xZ, xZ, xZ] : List Value) ++ zU8) 0 []), xM 1 6 0, xO 2 7 (.app 117 36 64 (.t 5) (.t 6)), xM 3 2 7]
def yb1g1 : UB | _ => .seq (reg0 [xQ 0 2 (.mov (.k xS))] 1) (.seq (.seq (reg0 [xM 0 3 0, xO 1 4 (.nild false (.t 3))] 2) (.cond (.t 4) (.seq (reg0 [xQ 0 2 (.mov (.k xS))] 1) .ret) .skip)) (.seq (reg0 (hid yl1g0) 4) .ret))
attribute [simp] yl1g0 yb1g1
def c_cloneP : EB × List QOp × Nat := ((hid yb1g1), [(.mov (.t 2))], 8)
theorem k_cloneP : cfun Tryz.prog 70 = some c_cloneP := by kernel_rfl
def yl1g6 : UL | _ => [xQ 0 5 (.bsr 119 3 [xZ, xZ, xS] 0 []), xM 1 6 0, xO 2 7 (.app 119 3 40 (.t 5) (.t 6)), xM 3 2 7]
def yb1g7 : UB | _ => .seq (reg0 [xQ 0 2 (.mov (.k xS))] 1) (.seq (.seq (reg0 [xM 0 3 0, xO 1 4 (.nild false (.t 3))] 2) (.cond (.t 4) (.seq (reg0 [xQ 0 2 (.mov (.k xS))] 1) .ret) .skip)) (.seq (reg0 (hid yl1g6) 4) .ret))
attribute [simp] yl1g6 yb1g7
def c_cloneH : EB × List QOp × Nat := ((hid yb1g7), [(.mov (.t 2))], 8)
theorem k_cloneH : cfun Tryz.prog 71 = some c_cloneH := by kernel_rfl
def yl1gc : UL | _ => [xQ 0 5 (.bsr 3 1 [xZ] 0 []), xM 1 6 0, xO 2 7 (.app 3 1 8 (.t 5) (.t 6)), xM 3 2 7]
def yb1gd : UB | _ => .seq (reg0 [xQ 0 2 (.mov (.k xS))] 1) (.seq (.seq (reg0 [xM 0 3 0, xO 1 4 (.nild false (.t 3))] 2) (.cond (.t 4) (.seq (reg0 [xQ 0 2 (.mov (.k xS))] 1) .ret) .skip)) (.seq (reg0 (hid yl1gc) 4) .ret))
attribute [simp] yl1gc yb1gd
def c_cloneI : EB × List QOp × Nat := ((hid yb1gd), [(.mov (.t 2))], 8)
theorem k_cloneI : cfun Tryz.prog 56 = some c_cloneI := by kernel_rfl
theorem mayS_t {s : Sta} (h : mayS s = true) : (0 ≤ s.num ∧ s.num ≤ 1099511627776 ∧ 0 ≤ s.h0 ∧ s.h0 ≤ 1125899906842624 ∧ 0 ≤ s.h1 ∧ s.h1 ≤ 1125899906842624 ∧ s.pays.length ≤ 8 ∧ s.holds.length + s.pays.length ≤ 8) ∧ payL none s.pays = true ∧ holL none s.holds = true ∧ total s ≤ 1125899906842624 := by
 simp only [mayS, Bool.and_eq_true, decide_eq_true_eq] at h
 exact ⟨h.1.1.1, h.1.1.2, h.1.2, h.2⟩
theorem payL_am : ∀ {o : Option Int} {l : List Pay}, payL o l = true → ∀ p ∈ l, 10 ≤ p.am ∧ p.am ≤ 1125899906842624
 | _, [], _, p, hp => by simp at hp
 | o, q :: r, h, p, hp => by
  simp only [payL, Bool.and_eq_true] at h
  rcases List.mem_cons.1 hp with rfl | hp
  ·exact mayP_am h.1.1
  ·exact payL_am h.2 p hp
theorem holL_am : ∀ {o : Option Int} {l : List Hol}, holL o l = true → ∀ p ∈ l, 10 ≤ p.am ∧ p.am ≤ 1125899906842624
 | _, [], _, p, hp => by simp at hp
 | o, q :: r, h, p, hp => by
  simp only [holL, Bool.and_eq_true] at h
  rcases List.mem_cons.1 hp with rfl | hp
  ·exact mayH_am h.1.1
  ·exact holL_am h.2 p hp
def totS (s : Sta) : Int := if mayS s = true then total s else 0
theorem Total_ok (s : Sta) (hs : s.ok) : ECalls Tryz.prog 50 [SV s] [] fun y H' => H' = [] ∧ y = I .i64 (totS s) := by
 obtain ⟨ok1, ok2, ok3, ok4, ok5, ok6, ok7⟩ := id hs
 refine ecalls k_Total ?_
 simp [c_Total, SV, staC]
 refine call0 (Smay_ok s hs) (by simp [SV, staC]) ?_
 rintro y H' ⟨rfl, rfl⟩
 cases hm : mayS s
 ·have ht : totS s = 0 := by simp [totS, hm]
  rw [ht]
  simp [EV.lit, I]
  exact fin0
 have ht : totS s = total s := by simp [totS, hm]
 obtain ⟨hr, hp, hh, htot⟩ := mayS_t hm
 rw [ht]
 have w1 : IntKind.i64.wrap (s.h0 + s.h1) = s.h0 + s.h1 := wrap_i64 (by omega) (by omega)
 simp [EV.lit, w1]
 refine eloop (α := Nat × Int) (fun a => a.1 ≤ s.pays.length ∧ a.2 = s.h0 + s.h1 + sumP (s.pays.take a.1) ∧ 0 ≤ a.2 ∧ a.2 ≤ 2251799813685248 + (a.1 : Int) * 1125899906842624) (fun a => s.pays.length - a.1)
  (fun a => [xA, Ptr 0, xA, I .i64 a.2, xA, xA, xA, xA, xA, xA, xA, xA, xA, xA, xA, xA, xA, xA, xA, PL s.pays, I .i64 s.pays.length, I .i64 a.1, xA, xA, xA, xA, xA, xA, xA, xA, xA, xA, xA, xA, xA, xA, xA, xA, xA, xA, xA, xA, .any]) (fun a => [some (.box 42 (staC s))]) (0, s.h0 + s.h1) [0]
  ⟨by simp, by simp [sumP], by simp; omega, by simp; omega⟩ (by simp [Ptr, I, PL]) (by simp [staC]) (by simp) (by simp) (by simp) ?_
 rintro ⟨i, n⟩ ⟨hi1, hi3, hi4, hi5⟩
 simp [Ptr, I, PL, staC] at hi1 hi3 hi4 hi5 ⊢
 refine alt (fun hlt => ?_) (fun hlt => ?_)
 ·obtain ⟨p, hc⟩ : ∃ p, s.pays[i]? = some p := ⟨s.pays[i], by simp [hlt]⟩
  have hl32 := (ok4 p (List.mgE hc)).2.2.2.2
  have ht : p.lock.take 32 = p.lock := List.tkL (by omega)
  have hcb := payv_get hc
  have ham := payL_am hp p (List.mgE hc)
  have w2 := wS (i := i) (by omega)
  have w4 : IntKind.i64.wrap (n + p.am) = n + p.am := wrap_i64 (by omega) (by omega)
  simp [hcb, payF, hl32, ht, w2, w4, -Int.natCast_add]
  exact round (i + 1, n + p.am) [0] ⟨by omega, by rw [take_s hc, sumP_snoc]; omega, by simp; omega, by simp; omega⟩ (by simp; omega) (by simp) (by simp) (by simp) (by simp) (by simp)
 have hil : i = s.pays.length := by omega
 subst hil
 rw [List.take_length] at hi3
 simp
 refine eloop (α := Nat × Int) (fun a => a.1 ≤ s.holds.length ∧ a.2 = s.h0 + s.h1 + sumP s.pays + sumH (s.holds.take a.1) ∧ 0 ≤ a.2 ∧ a.2 ≤ 22517998136852480 + (a.1 : Int) * 1125899906842624) (fun a => s.holds.length - a.1)
  (fun a => [xA, xA, xA, I .i64 a.2, xA, xA, xA, xA, xA, xA, xA, xA, xA, xA, xA, xA, xA, xA, xA, xA, xA, xA, xA, xA, xA, xA, xA, xA, xA, xA, xA, HL s.holds, I .i64 s.holds.length, I .i64 a.1, xA, xA, xA, xA, xA, xA, xA, xA, .any]) (fun a => []) (0, n) []
  ⟨by simp, by simp [sumH]; omega, hi4, by simp; omega⟩ (by simp [Ptr, I, HL]) (by simp [staC]) (by simp) (by simp) (by simp) ?_
 clear hi1 hi3 hi4 hi5 hlt
 clear n
 rintro ⟨i, n⟩ ⟨hi1, hi3, hi4, hi5⟩
 simp [Ptr, I, HL, staC] at hi1 hi3 hi4 hi5 ⊢
 refine alt (fun hlt => ?_) (fun hlt => ?_)
 ·obtain ⟨p, hc⟩ : ∃ p, s.holds[i]? = some p := ⟨s.holds[i], by simp [hlt]⟩
  have hcb := holv_get hc
  have ham := holL_am hh p (List.mgE hc)
  have w2 := wS (i := i) (by omega)
  have w4 : IntKind.i64.wrap (n + p.am) = n + p.am := wrap_i64 (by omega) (by omega)
  simp [hcb, holF, w2, w4, -Int.natCast_add]
  exact round (i + 1, n + p.am) [] ⟨by omega, by rw [take_s hc, sumH_snoc]; omega, by simp; omega, by simp; omega⟩ (by simp; omega) (by simp) (by simp) (by simp) (by simp) (by simp)
 have hil : i = s.holds.length := by omega
 subst hil
 rw [List.take_length] at hi3
 simp
 exact fin [] (by decide) rfl rfl rfl ⟨rfl, by rw [hi3]; rfl⟩
theorem cloneP_ok (l : List Pay) (hl : l.length ≤ 100000000) : ECalls Tryz.prog 70 [PL l] [] fun y H' => H' = [some (.row 117 36 (payv l))] ∧ y = .v (.c (.row 0 l.length)) := by
 refine ecalls k_cloneP ?_
 simp [c_cloneP, PL]
 refine both (fun h => ?_) (fun _ => ?_)
 ·simp
  refine finW _ (weak_nilR 2 117 36 rfl (by omega)) ?_
  have hn : l = [] := by cases l <;> simp_all
  subst hn
  exact fin [64] (by decide) rfl rfl rfl ⟨rfl, rfl⟩
 ·simp
  exact ⟨by omega, fin [80] (by decide) rfl rfl rfl ⟨rfl, by simp⟩⟩
theorem cloneH_ok (l : List Hol) (hl : l.length ≤ 100000000) : ECalls Tryz.prog 71 [HL l] [] fun y H' => H' = [some (.row 119 3 (holv l))] ∧ y = .v (.c (.row 0 l.length)) := by
 refine ecalls k_cloneH ?_
 simp [c_cloneH, HL]
 refine both (fun h => ?_) (fun _ => ?_)
 ·simp
  refine finW _ (weak_nilR 2 119 3 rfl (by omega)) ?_
  have hn : l = [] := by cases l <;> simp_all
  subst hn
  exact fin [64] (by decide) rfl rfl rfl ⟨rfl, rfl⟩
 ·simp
  exact ⟨by omega, fin [80] (by decide) rfl rfl rfl ⟨rfl, by simp⟩⟩
theorem cloneI_ok (l : List Int) (hl : l.length ≤ 100000000) : ECalls Tryz.prog 56 [IL l] [] fun y H' => H' = [some (.row 3 1 (intv l))] ∧ y = .v (.c (.row 0 l.length)) := by
 refine ecalls k_cloneI ?_
 simp [c_cloneI, IL]
 refine both (fun h => ?_) (fun _ => ?_)
 ·simp
  refine finW _ (weak_nilR 2 3 1 rfl (by omega)) ?_
  have hn : l = [] := by cases l <;> simp_all
  subst hn
  exact fin [64] (by decide) rfl rfl rfl ⟨rfl, rfl⟩
 ·simp
  exact ⟨by omega, fin [80] (by decide) rfl rfl rfl ⟨rfl, by simp⟩⟩
end Go.Proofs.YtddcceahaigodaaGreatDoor
