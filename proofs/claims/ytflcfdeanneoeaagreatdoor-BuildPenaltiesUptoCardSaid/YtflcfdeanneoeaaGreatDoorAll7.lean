import Derived.Test.YtflcfdeanneoeaaGreatDoorAll6
import Derived.Test.YtflcfdeanneoeaaGreatDoorProg
set_option maxHeartbeats 64000000
namespace Go.Proofs.YtflcfdeanneoeaaGreatDoor
open Go Go.EW
set_option linter.unusedSimpArgs false
def s_Len64_0 : ByteArray := ⟨#[0, 1, 2, 2, 3, 3, 3, 3, 4, 4, 4, 4, 4, 4, 4, 4, 5, 5, 5, 5, 5, 5, 5, 5, 5, 5, 5, 5, 5, 5, 5, 5, 6, 6, 6, 6, 6, 6, 6, 6, 6, 6, 6, 6, 6, 6, 6, 6, 6, 6, 6, 6, 6, 6, 6, 6, 6, 6, 6, 6, 6, 6, 6, 6, 7, 7, 7, 7, 7, 7, 7, 7, 7, 7, 7, 7, 7, 7, 7, 7, 7, 7, 7, 7, 7, 7, 7, 7, 7, 7, 7, 7, 7, 7, 7, 7, 7, 7, 7, 7, 7, 7, 7, 7, 7, 7, 7, 7, 7, 7, 7, 7, 7, 7, 7, 7, 7, 7, 7, 7, 7, 7, 7, 7, 7, 7, 7, 7, 8, 8, 8, 8, 8, 8, 8, 8, 8, 8, 8, 8, 8, 8, 8, 8, 8, 8, 8, 8, 8, 8, 8, 8, 8, 8, 8, 8, 8, 8, 8, 8, 8, 8, 8, 8, 8, 8, 8, 8, 8, 8, 8, 8, 8, 8, 8, 8, 8, 8, 8, 8, 8, 8, 8, 8, 8, 8, 8, 8, 8, 8, 8, 8, 8, 8, 8, 8, 8, 8, 8, 8, 8, 8, 8, 8, 8, 8, 8, 8, 8, 8, 8, 8, 8, 8, 8, 8, 8, 8, 8, 8, 8, 8, 8, 8, 8, 8, 8, 8, 8, 8, 8, 8, 8, 8, 8, 8, 8, 8, 8, 8, 8, 8, 8, 8, 8, 8, 8, 8, 8, 8, 8, 8, 8, 8, 8, 8]⟩
@[simp] def yl191 : UL | _ => [xQ 0 2 (.mov (xK 0))]
@[simp] def yl192 : UL | _ => [xM 0 3 0, xQ 1 4 (.bin .geq (.t 3) (.k (.int .u64 4294967296)))]
@[simp] def yl193 : UL | _ => [xM 0 5 0, xQ 1 6 (.bin .shr (.t 5) (.k (.int .u64 32))), xM 2 0 6]
@[simp] def yl194 : UL | _ => [xQ 0 2 (.mov (xK 32))]
@[simp] def yb195 : UB | _ => .cond (.t 4) (.seq (reg0 (hid yl193) 3) (reg0 (hid yl194) 1)) .skip
@[simp] def yl196 : UL | _ => [xM 0 7 0, xQ 1 8 (.bin .geq (.t 7) (.k (.int .u64 65536)))]
@[simp] def yl197 : UL | _ => [xM 0 9 0, xQ 1 10 (.bin .shr (.t 9) (.k (.int .u64 16))), xM 2 0 10]
@[simp] def yl198 : UL | _ => [xM 0 11 2, xQ 1 12 (.bin .add (.t 11) (xK 16)), xM 2 2 12]
@[simp] def yb199 : UB | _ => .cond (.t 8) (.seq (reg0 (hid yl197) 3) (reg0 (hid yl198) 3)) .skip
@[simp] def yl19a : UL | _ => [xM 0 13 0, xQ 1 14 (.bin .geq (.t 13) (.k (.int .u64 256)))]
@[simp] def yl19b : UL | _ => [xM 0 15 0, xQ 1 16 (.bin .shr (.t 15) (.k (.int .u64 8))), xM 2 0 16]
@[simp] def yl19c : UL | _ => [xM 0 17 2, xQ 1 18 (.bin .add (.t 17) (xK 8)), xM 2 2 18]
@[simp] def yb19d : UB | _ => .cond (.t 14) (.seq (reg0 (hid yl19b) 3) (reg0 (hid yl19c) 3)) .skip
@[simp] def yl19e : UL | _ => [xM 6 2 24]
@[simp] def yl19f : UL | _ => xM 0 19 2 :: xM 1 20 0 :: xQ 2 21 (.cnv .u8 (.t 20)) :: xQ 3 22 (.ixs (.k (.string s_Len64_0)) (.t 21)) :: xQ 4 23 (.cnv .i64 (.t 22)) :: xQ 5 24 (.bin .add (.t 19) (.t 23)) :: hid yl19e
@[simp] def yb19g : UB | _ => .seq (.seq (reg0 (hid yl19a) 2) (hid yb19d)) (.seq (reg0 (hid yl19f) 7) .ret)
@[simp] def yb19h : UB | _ => .seq (.seq (reg0 (hid yl196) 2) (hid yb199)) (hid yb19g)
@[simp] def yb19i : UB | _ => .seq (reg0 (hid yl191) 1) (.seq (.seq (reg0 (hid yl192) 2) (hid yb195)) (hid yb19h))
def c_Len64 : EB × List QOp × Nat := ((hid yb19i), [(.mov (.t 2))], 25)
theorem k_Len64 : cfun Tryz.prog 184 = some c_Len64 := by kernel_rfl
@[simp] def yl19j : UL | _ => [xQ 0 2 (.mov (xK 0))]
@[simp] def yl19k : UL | _ => [xM 0 3 0, xO 1 4 (.call 184 [(.t 3)]), xQ 2 5 (.bin .add (.t 4) (xK 7)), xQ 3 6 (.bin .quo (.t 5) (xK 8)), xM 4 2 6]
@[simp] def yb19l : UB | _ => .seq (reg0 (hid yl19j) 1) (.seq (reg0 (hid yl19k) 5) .ret)
def c_width : EB × List QOp × Nat := ((hid yb19l), [(.mov (.t 2))], 7)
theorem k_width : cfun Tryz.prog 166 = some c_width := by kernel_rfl
@[simp] def yl19m : UL | _ => [xQ 0 6 (.mov (.k xS))]
@[simp] def yl19n : UL | _ => [xM 0 8 1, xO 1 9 (.call 166 [(.t 8)]), xQ 2 10 (.bin .sub (.t 9) (xK 1)), xM 3 7 10]
@[simp] def yl19o : UL | _ => [xM 0 11 7, xQ 1 12 (.bin .geq (.t 11) (xK 0))]
@[simp] def yl19p : UL | _ => [xM 6 21 2, xQ 7 22 (.bin .xor (.t 20) (.t 21)), xQ 8 23 (.bsl 1 [(.int .u8 0)] 1 [(0, (.t 22))]), xO 9 24 (.app 5 1 1 (.t 15) (.t 23)), xM 10 0 24]
@[simp] def yl19q : UL | _ => xM 0 15 0 :: xM 1 16 1 :: xM 2 17 7 :: xQ 3 18 (.bin .mul (xK 8) (.t 17)) :: xQ 4 19 (.bin .shr (.t 16) (.t 18)) :: xQ 5 20 (.cnv .u8 (.t 19)) :: hid yl19p
@[simp] def yl19r : UL | _ => [xM 0 13 7, xQ 1 14 (.bin .sub (.t 13) (xK 1)), xM 2 7 14]
@[simp] def yb19s : UB | _ => .seq (.seq (reg0 (hid yl19o) 2) (.cond (.t 12) .skip (.exit 0))) (.seq (.block 1 (reg0 (hid yl19q) 11)) (reg0 (hid yl19r) 3))
@[simp] def yl19t : UL | _ => [xM 0 25 0, xM 1 6 25]
@[simp] def yb19u : UB | _ => .seq (.seq (reg0 (hid yl19n) 4) (.block 0 (.loop (hid yb19s)))) (.seq (reg0 (hid yl19t) 2) .ret)
@[simp] def yb19v : UB | _ => .seq (reg0 (hid yl19m) 1) (hid yb19u)
def c_high : EB × List QOp × Nat := ((hid yb19v), [(.mov (.t 6))], 26)
theorem k_high : cfun Tryz.prog 165 = some c_high := by kernel_rfl
theorem tab_ok : lenTab (fun i => s_Len64_0.data.toList[i]?) = true := by kernel_rfl
theorem leaf_ok (n x k : Nat) (hx : x = n / 2 ^ k) (h0 : k = 0 ∨ x ≠ 0) (h1 : x < 256) : ∃ r : UInt8, s_Len64_0.data.toList[x]? = some r ∧ IsLen n (k + r.toNat) ∧ r.toNat ≤ 8 := by
  obtain ⟨r, h2, h3, h4⟩ := lenTab_spec tab_ok h1
  refine ⟨r, h2, ?_, h4⟩
  rcases h0 with rfl | h0
  · simp at hx; subst hx; simpa using h3
  · subst hx; exact isLen_shift h3 h0
theorem len64_ok (n : Nat) (h : n < 18446744073709551616) : ECalls Tryz.prog 184 [I .u64 n] [] fun y H' => H' = [] ∧ ∃ r : Nat, IsLen n r ∧ r ≤ 64 ∧ y = I .i64 r := by
  have leaf : ∀ (a : Int) (x k : Nat), a = x → x = n / 2 ^ k → (k = 0 ∨ x ≠ 0) → x < 256 → ∃ r : UInt8, IntKind.u8.wrap a = a ∧ 0 ≤ a ∧ s_Len64_0.data[a.toNat]? = some r ∧ IsLen n (k + r.toNat) ∧ r.toNat ≤ 8 := by
    rintro a x k rfl h1 h2 h3
    obtain ⟨r, q1, q2, q3⟩ := leaf_ok n x k h1 h2 h3
    exact ⟨r, wrap_u8 (by omega) (by omega), by omega, by simpa using q1, q2, q3⟩
  refine ecalls k_Len64 ?_
  simp [c_Len64, I]
  refine alt (fun h1 => ?_) (fun h1 => ?_) <;> simp (disch := omega) [wrap_i64] <;> refine alt (fun h2 => ?_) (fun h2 => ?_) <;> simp (disch := omega) [wrap_i64] <;> refine alt (fun h3 => ?_) (fun h3 => ?_) <;> simp (disch := omega) [wrap_i64]
  · obtain ⟨r, e1, e2, e3, e4, e5⟩ := leaf ((n : Int) / 4294967296 / 65536 / 256) (n / 2 ^ 56) 56 (by omega) rfl (by omega) (by omega)
    simp (disch := omega) [e1, e2, e3, wrap_i64]
    exact fin [] (by simp) rfl rfl rfl ⟨rfl, 56 + r.toNat, e4, by omega, by simp⟩
  · obtain ⟨r, e1, e2, e3, e4, e5⟩ := leaf ((n : Int) / 4294967296 / 65536) (n / 2 ^ 48) 48 (by omega) rfl (by omega) (by omega)
    simp (disch := omega) [e1, e2, e3, wrap_i64]
    exact fin [] (by simp) rfl rfl rfl ⟨rfl, 48 + r.toNat, e4, by omega, by simp⟩
  · obtain ⟨r, e1, e2, e3, e4, e5⟩ := leaf ((n : Int) / 4294967296 / 256) (n / 2 ^ 40) 40 (by omega) rfl (by omega) (by omega)
    simp (disch := omega) [e1, e2, e3, wrap_i64]
    exact fin [] (by simp) rfl rfl rfl ⟨rfl, 40 + r.toNat, e4, by omega, by simp⟩
  · obtain ⟨r, e1, e2, e3, e4, e5⟩ := leaf ((n : Int) / 4294967296) (n / 2 ^ 32) 32 (by omega) rfl (by omega) (by omega)
    simp (disch := omega) [e1, e2, e3, wrap_i64]
    exact fin [] (by simp) rfl rfl rfl ⟨rfl, 32 + r.toNat, e4, by omega, by simp⟩
  · obtain ⟨r, e1, e2, e3, e4, e5⟩ := leaf ((n : Int) / 65536 / 256) (n / 2 ^ 24) 24 (by omega) rfl (by omega) (by omega)
    simp (disch := omega) [e1, e2, e3, wrap_i64]
    exact fin [] (by simp) rfl rfl rfl ⟨rfl, 24 + r.toNat, e4, by omega, by simp⟩
  · obtain ⟨r, e1, e2, e3, e4, e5⟩ := leaf ((n : Int) / 65536) (n / 2 ^ 16) 16 (by omega) rfl (by omega) (by omega)
    simp (disch := omega) [e1, e2, e3, wrap_i64]
    exact fin [] (by simp) rfl rfl rfl ⟨rfl, 16 + r.toNat, e4, by omega, by simp⟩
  · obtain ⟨r, e1, e2, e3, e4, e5⟩ := leaf ((n : Int) / 256) (n / 2 ^ 8) 8 (by omega) rfl (by omega) (by omega)
    simp (disch := omega) [e1, e2, e3, wrap_i64]
    exact fin [] (by simp) rfl rfl rfl ⟨rfl, 8 + r.toNat, e4, by omega, by simp⟩
  · obtain ⟨r, e1, e2, e3, e4, e5⟩ := leaf ((n : Int)) (n / 2 ^ 0) 0 (by omega) rfl (by omega) (by omega)
    simp at e3 e4
    simp (disch := omega) [e1, e2, e3, wrap_i64]
    exact fin [] (by simp) rfl rfl rfl ⟨rfl, r.toNat, e4, by omega, by simp⟩
theorem width_ok (n : Nat) (h : n < 18446744073709551616) : ECalls Tryz.prog 166 [I .u64 n] [] fun y H' => H' = [] ∧ y = I .i64 (nb n) := by
  refine ecalls k_width ?_
  simp [c_width, I]
  refine call0 (len64_ok n h) rfl ?_
  rintro y H' ⟨rfl, r, hr, hle, rfl⟩
  have h1 : IntKind.i64.wrap ((r : Int) + 7) = (r : Int) + 7 := wrap_i64 (by omega) (by omega)
  have h2 : IntKind.i64.wrap (((r : Int) + 7).tdiv 8) = (nb n : Int) := by
    rw [← isLen_nb hr, Int.tdiv_eq_ediv_of_nonneg (by omega), wrap_i64 (by omega) (by omega)]; omega
  simp [I, h1, h2]
  exact fin [] (by simp) rfl rfl rfl ⟨rfl, rfl⟩
def R (o : Nat) (l : List UInt8) : EV := .v (.c (.row o l.length))
def RO (l : List UInt8) : EO := .row 5 1 (bsv l)
theorem high_ok (bs : List UInt8) (n : Nat) (m : UInt8) (h : n < 18446744073709551616) (hb : bs.length ≤ 1000000000) :
    ECalls Tryz.prog 165 [R 0 bs, I .u64 n, I .u8 m.toNat] [RO bs] fun y H' => H' = [none, some (RO (bs ++ (dg n).map (· ^^^ m)))] ∧ y = R 1 (bs ++ (dg n).map (· ^^^ m)) := by
  refine ecalls k_high ?_
  simp [c_high, I, R]
  refine call0 (width_ok n h) rfl ?_
  rintro y H' ⟨rfl, rfl⟩
  have h8 := nb_8 h
  simp (disch := omega) [I, wrap_i64]
  refine eloop (α := Nat × List UInt8) (fun a => a.1 ≤ nb n ∧ a.2 ++ (be a.1 n).map (· ^^^ m) = (dg n).map (· ^^^ m)) (fun a => a.1)
    (fun a => [R 1 (bs ++ a.2), I .u64 n, I .u8 m.toNat, xA, xA, xA, xA, I .i64 ((a.1 : Int) - 1), xA, xA, xA, xA, xA, xA, xA, xA, xA, xA, xA, xA, xA, xA, xA, xA, xA, .any]) (fun a => [none, some (RO (bs ++ a.2))]) (nb n, []) [0, 0]
    ⟨Nat.le_refl _, by simp [dg]⟩ (by simp [R, I]) (by simp [RO]) (by simp) (by simp) (by simp) ?_
  rintro ⟨k, ds⟩ ⟨hk, hds⟩
  simp [I, R, RO] at hk hds ⊢
  refine alt (fun hp => ?_) (fun hp => ?_)
  · obtain ⟨j, rfl⟩ : ∃ j, k = j + 1 := ⟨k - 1, by omega⟩
    have hdl := congrArg List.length hds
    simp [be_len, dg_len] at hdl
    simp (disch := omega) [wrap_i64, xor_byte]
    exact ⟨by omega, ⟨by omega, by omega⟩, round (j, ds ++ [b8 (n / 256 ^ j) ^^^ m]) [0, 178] ⟨by simp; omega, by rw [← hds]; simp [be]⟩ (by simp) (by simp [R, I, Nat.add_assoc]) (by simp [RO, bsv, cb]) (by simp) (by simp) (by simp)⟩
  · obtain rfl : k = 0 := by omega
    simp [be] at hds
    subst hds
    simp
    exact fin [1] (by simp) rfl rfl rfl ⟨by simp [RO], by simp [R]⟩
@[simp] def yl19w : UL | _ => [xQ 0 0 (.mov (.k (.pointer none)))]
@[simp] def yl19x : UL | _ => [xQ 0 1 (.alloc 289 [xS]), xM 1 0 1]
@[simp] def yb19y : UB | _ => .seq (reg0 (hid yl19w) 1) (.seq (reg0 (hid yl19x) 2) .ret)
def c_New : EB × List QOp × Nat := ((hid yb19y), [(.mov (.t 0))], 2)
theorem k_New : cfun Tryz.prog 126 = some c_New := by kernel_rfl
@[simp] def yl19z : UL | _ => [xQ 0 4 (.mov (.k (.pointer none)))]
@[simp] def yl1a0 : UL | _ => [xM 0 5 0, xQ 1 6 (.eqp true (.t 5))]
@[simp] def yl1a1 : UL | _ => [xQ 12 19 (.nilc (.t 7)), xQ 13 20 (.fad 0 (.t 19)), xN 14 (.fz (.sto 1 (.t 20) (.t 18)))]
@[simp] def yl1a2 : UL | _ => xM 10 17 1 :: ⟨6, (some 13), none, (.call 166 [(.t 12)]), [0, 1, 2, 3, 4, 10]⟩ :: xQ 7 14 (.cnv .u8 (.t 13)) :: xQ 8 15 (.bsl 1 [(.int .u8 0)] 1 [(0, (.t 14))]) :: ⟨9, (some 16), none, (.app 5 1 1 (.t 11) (.t 15)), [0, 10]⟩ :: ⟨11, (some 18), none, (.call 165 [(.t 16), (.t 17), (.k (.int .u8 0))]), [0]⟩ :: hid yl1a1
@[simp] def yl1a3 : UL | _ => xM 0 7 0 :: xM 1 8 0 :: xQ 2 9 (.nilc (.t 8)) :: xQ 3 10 (.fad 0 (.t 9)) :: xQ 4 11 (.ldc (.t 10)) :: xM 5 12 1 :: hid yl1a2
@[simp] def yb1a4 : UB | _ => .seq (reg0 (hid yl1a0) 2) (.cond (.t 6) (reg1 (hid yl1a3) 15) .skip)
@[simp] def yl1a5 : UL | _ => [xM 0 21 0, xM 1 4 21]
@[simp] def yb1a6 : UB | _ => .seq (reg0 (hid yl19z) 1) (.seq (hid yb1a4) (.seq (reg0 (hid yl1a5) 2) .ret))
def c_WUint : EB × List QOp × Nat := ((hid yb1a6), [(.mov (.t 4))], 22)
theorem k_WUint : cfun Tryz.prog 127 = some c_WUint := by kernel_rfl
@[simp] def yl1a7 : UL | _ => [xQ 0 4 (.mov (.k (.pointer none)))]
@[simp] def yl1a8 : UL | _ => [xM 0 7 0, xQ 1 8 (.eqp false (.t 7))]
@[simp] def yl1a9 : UL | _ => [xQ 0 4 (.mov (.k (.pointer none)))]
@[simp] def yb1aa : UB | _ => .seq (reg0 (hid yl1a8) 2) (.cond (.t 8) (.seq (reg0 (hid yl1a9) 1) .ret) .skip)
@[simp] def yl1ab : UL | _ => [xM 0 9 1, xQ 1 10 (.len (.t 9)), xQ 2 11 (.mov (xK 0))]
@[simp] def yl1ac : UL | _ => [xQ 0 12 (.bin .lss (.t 11) (.t 10))]
@[simp] def yl1ad : UL | _ => [xQ 0 13 (.isl 1 (.t 9) (.t 11)), xQ 1 14 (.ldc (.t 13)), xM 2 6 14]
@[simp] def yl1ae : UL | _ => [xQ 6 21 (.bsl 1 [(.int .u8 0)] 1 [(0, (.t 20))]), xO 7 22 (.app 5 1 1 (.t 19) (.t 21)), xQ 8 23 (.nilc (.t 15)), xQ 9 24 (.fad 0 (.t 23)), xN 10 (.fz (.sto 1 (.t 24) (.t 22)))]
@[simp] def yl1af : UL | _ => xM 0 15 0 :: xM 1 16 0 :: xQ 2 17 (.nilc (.t 16)) :: xQ 3 18 (.fad 0 (.t 17)) :: xQ 4 19 (.ldc (.t 18)) :: xM 5 20 6 :: hid yl1ae
@[simp] def yl1ag : UL | _ => [xM 0 25 6, xQ 1 26 (.bin .eql (.t 25) (.k (.int .u8 0)))]
@[simp] def yl1ah : UL | _ => [xO 6 33 (.app 5 1 1 (.t 31) (.t 32)), xQ 7 34 (.nilc (.t 27)), xQ 8 35 (.fad 0 (.t 34)), xN 9 (.fz (.sto 1 (.t 35) (.t 33)))]
@[simp] def yl1ai : UL | _ => xM 0 27 0 :: xM 1 28 0 :: xQ 2 29 (.nilc (.t 28)) :: xQ 3 30 (.fad 0 (.t 29)) :: xQ 4 31 (.ldc (.t 30)) :: xQ 5 32 (.bsl 1 [(.int .u8 0)] 1 [(0, (.k (.int .u8 255)))]) :: hid yl1ah
@[simp] def yb1aj : UB | _ => .seq (reg0 (hid yl1ag) 2) (.cond (.t 26) (reg0 (hid yl1ai) 10) .skip)
@[simp] def yb1ak : UB | _ => .seq (reg0 (hid yl1ad) 3) (.seq (reg0 (hid yl1af) 11) (hid yb1aj))
@[simp] def yl1al : UL | _ => [xQ 0 36 (.bin .add (.t 11) (xK 1)), xM 1 11 36]
@[simp] def yb1am : UB | _ => .seq (.cond (.t 12) .skip (.exit 0)) (.seq (.block 1 (hid yb1ak)) (reg0 (hid yl1al) 2))
@[simp] def yb1an : UB | _ => .seq (reg0 (hid yl1ab) 3) (.block 0 (.loop (.seq (reg0 (hid yl1ac) 1) (hid yb1am))))
@[simp] def yl1ao : UL | _ => [xO 6 43 (.app 5 1 1 (.t 41) (.t 42)), xQ 7 44 (.nilc (.t 37)), xQ 8 45 (.fad 0 (.t 44)), xN 9 (.fz (.sto 1 (.t 45) (.t 43)))]
@[simp] def yl1ap : UL | _ => xM 0 37 0 :: xM 1 38 0 :: xQ 2 39 (.nilc (.t 38)) :: xQ 3 40 (.fad 0 (.t 39)) :: xQ 4 41 (.ldc (.t 40)) :: xQ 5 42 (.bsl 1 [(.int .u8 0)] 2 [(0, (.k (.int .u8 0))), (1, (.k (.int .u8 0)))]) :: hid yl1ao
@[simp] def yl1aq : UL | _ => [xM 0 46 0, xM 1 4 46]
@[simp] def yb1ar : UB | _ => .seq (reg0 (hid yl1ap) 10) (.seq (reg0 (hid yl1aq) 2) .ret)
@[simp] def yb1as : UB | _ => .seq (reg0 (hid yl1a7) 1) (.seq (hid yb1aa) (.seq (hid yb1an) (hid yb1ar)))
def c_WBytes : EB × List QOp × Nat := ((hid yb1as), [(.mov (.t 4))], 47)
theorem k_WBytes : cfun Tryz.prog 129 = some c_WBytes := by kernel_rfl
@[simp] def yl1at : UL | _ => [xQ 0 3 (.box 23 (.t 1)), xQ 1 4 (.mov (.k (.pointer none)))]
@[simp] def yl1au : UL | _ => [xM 0 5 0, xQ 1 6 (.eqp true (.t 5))]
@[simp] def yl1av : UL | _ => [⟨6, (some 13), none, (.app 5 1 1 (.t 11) (.t 12)), [0]⟩, xQ 7 14 (.nilc (.t 7)), xQ 8 15 (.fad 0 (.t 14)), xN 9 (.fz (.sto 1 (.t 15) (.t 13)))]
@[simp] def yl1aw : UL | _ => xM 0 7 0 :: xM 1 8 0 :: xQ 2 9 (.nilc (.t 8)) :: xQ 3 10 (.fad 0 (.t 9)) :: xQ 4 11 (.ldc (.t 10)) :: xQ 5 12 (.sar 32 (.t 3) none none) :: hid yl1av
@[simp] def yb1ax : UB | _ => .seq (reg0 (hid yl1au) 2) (.cond (.t 6) (reg1 (hid yl1aw) 10) .skip)
@[simp] def yl1ay : UL | _ => [xM 0 16 0, xM 1 4 16]
@[simp] def yb1az : UB | _ => .seq (reg0 (hid yl1at) 2) (.seq (hid yb1ax) (.seq (reg0 (hid yl1ay) 2) .ret))
def c_WHash : EB × List QOp × Nat := ((hid yb1az), [(.mov (.t 4))], 17)
theorem k_WHash : cfun Tryz.prog 128 = some c_WHash := by kernel_rfl
@[simp] def yl1b0 : UL | _ => [xQ 0 2 (.mov (.k xS))]
@[simp] def yl1b1 : UL | _ => [xM 0 3 0, xQ 1 4 (.eqp false (.t 3))]
@[simp] def yl1b2 : UL | _ => [xQ 0 2 (.mov (.k xS))]
@[simp] def yb1b3 : UB | _ => .seq (reg0 (hid yl1b1) 2) (.cond (.t 4) (.seq (reg0 (hid yl1b2) 1) .ret) .skip)
@[simp] def yl1b4 : UL | _ => [xM 0 5 0, xQ 1 6 (.nilc (.t 5)), xQ 2 7 (.fad 0 (.t 6)), xQ 3 8 (.ldc (.t 7)), xO 4 9 (.call 72 [(.t 8)]), xM 5 2 9]
@[simp] def yb1b5 : UB | _ => .seq (reg0 (hid yl1b0) 1) (.seq (hid yb1b3) (.seq (reg0 (hid yl1b4) 6) .ret))
def c_WDone : EB × List QOp × Nat := ((hid yb1b5), [(.mov (.t 2))], 10)
theorem k_WDone : cfun Tryz.prog 130 = some c_WDone := by kernel_rfl
@[simp] def yl1b6 : UL | _ => [xQ 0 2 (.mov (.k xS))]
@[simp] def yl1b7 : UL | _ => [xM 0 3 0, xO 1 4 (.nild false (.t 3))]
@[simp] def yl1b8 : UL | _ => [xQ 0 2 (.mov (.k xS))]
@[simp] def yb1b9 : UB | _ => .seq (reg0 (hid yl1b7) 2) (.cond (.t 4) (.seq (reg0 (hid yl1b8) 1) .ret) .skip)
@[simp] def yl1ba : UL | _ => [xQ 0 5 (.bsr 5 1 [(.int .u8 0)] 0 []), xM 1 6 0, xO 2 7 (.app 5 1 1 (.t 5) (.t 6)), xM 3 2 7]
@[simp] def yb1bb : UB | _ => .seq (reg0 (hid yl1b6) 1) (.seq (hid yb1b9) (.seq (reg0 (hid yl1ba) 4) .ret))
def c_CloneB : EB × List QOp × Nat := ((hid yb1bb), [(.mov (.t 2))], 8)
theorem k_CloneB : cfun Tryz.prog 72 = some c_CloneB := by kernel_rfl
def Ptr (o : Nat) : EV := .v (.c (.ptr o 0))
def WO (r : Nat) (l : List UInt8) : EO := .box 289 [.row r l.length]
def uintB (n : Nat) : List UInt8 := b8 (nb n) :: dg n
theorem xor0 (l : List UInt8) : l.map (· ^^^ 0) = l := by
  induction l with
  | nil => rfl
  | cons x r ih => rw [List.map_cons, ih]; simp
theorem New_ok : ECalls Tryz.prog 126 [] [] fun y H' => H' = [some (WO 1 []), some (RO [])] ∧ y = Ptr 0 := by
  refine ecalls k_New ?_
  simp [c_New]
  refine finW _ (weak_nil (o := 16) (k := 0) (ty := 5) (es := 1) rfl rfl (by omega)) ?_
  exact fin [16, 48] (by simp) rfl rfl rfl ⟨rfl, rfl⟩
theorem clone_ok (l : List UInt8) (hl : l.length ≤ 1000000000) : ECalls Tryz.prog 72 [Bs l] [] fun y H' => H' = [some (RO l)] ∧ y = R 0 l := by
  refine ecalls k_CloneB ?_
  simp [c_CloneB, Bs]
  refine both (fun h => ?_) (fun _ => ?_)
  · simp
    refine finW _ (weak_nilR 2 5 1 rfl (by omega)) ?_
    exact fin [64] (by decide) rfl rfl rfl ⟨by rw [h]; rfl, by rw [h]; rfl⟩
  · simp
    exact ⟨by omega, fin [80] (by decide) rfl rfl rfl ⟨rfl, rfl⟩⟩
theorem WUint_ok (bs : List UInt8) (n : Nat) (h : n < 18446744073709551616) (hb : bs.length ≤ 900000000) :
    ECalls Tryz.prog 127 [Ptr 0, I .u64 n] [WO 1 bs, RO bs] fun y H' => H' = [some (WO 2 (bs ++ uintB n)), none, some (RO (bs ++ uintB n))] ∧ y = Ptr 0 := by
  have h8 := nb_8 h
  refine ecalls k_WUint ?_
  simp [c_WUint, I, Ptr, WO, RO]
  refine call0 (width_ok n h) rfl ?_
  rintro y H' ⟨rfl, rfl⟩
  simp (disch := omega) [I, wrap_u8_nat, Wok]
  refine ⟨by omega, callH [194] (high_ok (bs ++ [b8 (nb n)]) n 0 h (by simp; omega)) (by simp [R, I]) (by simp [RO, bsv, cb]) (by simp) (by simp) (by simp [Wok]) ?_⟩
  rintro y H' ⟨rfl, rfl⟩
  refine ⟨.inl rfl, le_ok rfl, ?_⟩
  simp [R, xor0]
  exact fin [226] (by decide) rfl rfl rfl ⟨by simp [RO, uintB], rfl⟩
def stuffB (l : List UInt8) : List UInt8 := l.flatMap fun c => if c = 0 then [0, 255] else [c]
def bytesB (l : List UInt8) : List UInt8 := stuffB l ++ [0, 0]
theorem stuff_len (l : List UInt8) : (stuffB l).length ≤ 2 * l.length := by
  induction l with
  | nil => simp [stuffB]
  | cons x r ih =>
    have : (stuffB (x :: r)).length = (if x = 0 then [0, 255] else [x] : List UInt8).length + (stuffB r).length := by simp [stuffB]
    rw [this]
    split <;> simp <;> omega
theorem stuff_snoc (l : List UInt8) (c : UInt8) : stuffB (l ++ [c]) = stuffB l ++ (if c = 0 then [0, 255] else [c]) := by simp [stuffB]
theorem take_snoc {l : List UInt8} {i : Nat} {c : UInt8} (h : l[i]? = some c) : l.take (i + 1) = l.take i ++ [c] := by
  rw [List.take_add_one, h]; rfl
theorem WBytes_ok (bs l : List UInt8) (hb : bs.length ≤ 900000000) (hl : l.length ≤ 10000000) :
    ECalls Tryz.prog 129 [Ptr 0, Bs l] [WO 1 bs, RO bs] fun y H' => H' = [some (WO 2 (bs ++ bytesB l)), none, some (RO (bs ++ bytesB l))] ∧ y = Ptr 0 := by
  refine ecalls k_WBytes ?_
  simp [c_WBytes, Bs, Ptr, WO, RO]
  refine eloop (α := Nat) (fun i => i ≤ l.length) (fun i => l.length - i)
    (fun i => [Ptr 0, xA, xA, xA, xA, xA, xA, xA, xA, Bs l, I .i64 l.length, I .i64 i, xA, xA, xA, xA, xA, xA, xA, xA, xA, xA, xA, xA, xA, xA, xA, xA, xA, xA, xA, xA, xA, xA, xA, xA, xA, xA, xA, xA, xA, xA, xA, xA, xA, xA, .any]) (fun i => [some (WO 2 (bs ++ stuffB (l.take i))), none, some (RO (bs ++ stuffB (l.take i)))]) 0 [0, 1, 1]
    (Nat.zero_le _) (by simp [Ptr, Bs, I]) (by simp [RO, WO, stuffB]) (by simp) (by decide) (by simp) ?_
  intro i hi
  have hle := stuff_len (l.take i)
  have hlt : (l.take i).length = i := by simp; omega
  simp [I, Bs, Ptr, WO, RO]
  refine alt (fun hp => ?_) (fun hp => ?_)
  · obtain ⟨c, hc⟩ : ∃ c, l[i]? = some c := ⟨l[i], by simp [hp]⟩
    have hcb : (bsv l)[i]? = some (cb c) := by simp [bsv, hc]
    have hts := take_snoc hc
    simp [hcb, cb]
    refine ⟨by omega, alt (fun hz => ?_) (fun hz => ?_)⟩
    · have hc0 : c = 0 := by apply UInt8.toNat_inj.1; simpa using hz
      have hst : stuffB (l.take (i + 1)) = stuffB (l.take i) ++ [0, 255] := by rw [hts, stuff_snoc, if_pos hc0]
      simp
      have w1 := wS (i := i) (by omega)
      simp [w1, -Int.natCast_add]
      refine ⟨by omega, round (i + 1) [0, 1, 371] (by omega) (by omega) ?_ ?_ (by simp) (by decide) (by simp)⟩
      · simp [hst]
      · subst hc0; simp [hst, bsv, cb]; omega
    · have hc0 : c ≠ 0 := by rintro rfl; exact hz rfl
      have hst : stuffB (l.take (i + 1)) = stuffB (l.take i) ++ [c] := by rw [hts, stuff_snoc, if_neg hc0]
      have w1 := wS (i := i) (by omega)
      simp [w1, -Int.natCast_add]
      refine round (i + 1) [0, 1, 179] (by omega) (by omega) ?_ ?_ (by simp) (by decide) (by simp)
      · simp [hst]
      · simp [hst, bsv, cb]; omega
  · have hil : i = l.length := by omega
    subst hil
    simp at hle
    simp
    exact ⟨by omega, fin [115] (by decide) rfl rfl rfl ⟨by simp [bytesB, bsv, cb]; omega, rfl⟩⟩
theorem WHash_ok (bs h : List UInt8) (hb : bs.length ≤ 900000000) (hl : h.length = 32) :
    ECalls Tryz.prog 128 [Ptr 0, Ag h] [WO 1 bs, RO bs] fun y H' => H' = [some (WO 2 (bs ++ h)), none, some (RO (bs ++ h))] ∧ y = Ptr 0 := by
  refine ecalls k_WHash ?_
  have ht : h.take 32 = h := List.take_of_length_le (by omega)
  simp [c_WHash, Ptr, WO, RO, Ag, ht]
  exact ⟨by omega, by omega, fin [162] (by decide) rfl rfl rfl ⟨by simp, rfl⟩⟩
theorem WDone_ok (bs : List UInt8) (hb : bs.length ≤ 1000000000) : ECalls Tryz.prog 130 [Ptr 0] [WO 1 bs, RO bs] fun y H' => H' = [some (WO 1 bs), some (RO bs), some (RO bs)] ∧ y = R 2 bs := by
  refine ecalls k_WDone ?_
  simp [c_WDone, Ptr, WO, RO]
  refine call0 (clone_ok bs hb) (by simp [Bs]) ?_
  rintro y H' ⟨rfl, rfl⟩
  refine ⟨.inr ⟨rfl, by simp [RO, noSlO, bsv, cb]⟩, le_ok rfl, ?_⟩
  simp [R, RO]
  exact fin [114] (by decide) rfl rfl rfl ⟨rfl, rfl⟩
def errV (e : Nat) : Value := if e = 0 then .nilIface else .iface 120 (.int .i64 e)
@[simp] theorem eqiv_errV (e : Nat) : eqiv (errV e) = some (decide (e = 0)) := by
  unfold errV
  split <;> simp [eqiv, *]
@[simp] theorem cst_errV (e : Nat) : cst (errV e) = .v (.c (.fz (.lit (errV e)))) := by
  unfold errV
  split <;> rfl
@[simp] theorem errV_0 : Value.nilIface = errV 0 := rfl
@[simp] theorem errV_1 : Value.iface 120 (.int .i64 1) = errV 1 := rfl
@[simp] theorem errV_2 : Value.iface 120 (.int .i64 2) = errV 2 := rfl
@[simp] theorem errV_3 : Value.iface 120 (.int .i64 3) = errV 3 := rfl
@[simp] theorem errV_4 : Value.iface 120 (.int .i64 4) = errV 4 := rfl
@[simp] theorem errV_12 : Value.iface 120 (.int .i64 12) = errV 12 := rfl
set_option linter.unusedVariables false
theorem drop_cons {α : Type} {b : List α} {i : Nat} {c : α} (h : b[i]? = some c) : b.drop i = c :: b.drop (i + 1) := by
  have hi : i < b.length := lt_len h
  rw [List.drop_eq_getElem_cons hi]
  congr 1
  rw [List.getElem?_eq_getElem hi] at h
  exact Option.some.inj h
@[simp] def yl1bc : UL | _ => [xQ 0 2 (.mov (.k (.bool false)))]
@[simp] def yl1bd : UL | _ => [xM 6 2 8]
@[simp] def yl1be : UL | _ => xM 0 3 0 :: xQ 1 4 (.bin .eql (.t 3) (xK 0)) :: xM 2 5 4 :: xG 3 6 5 false (.mov (.t 0)) :: xG 4 7 5 false (.bin .eql (.t 6) (xK 1)) :: xQ 5 8 (.pick (.t 5) (.k (.bool true)) (.t 7)) :: hid yl1bd
@[simp] def yb1bf : UB | _ => .seq (reg0 (hid yl1bc) 1) (.seq (reg0 (hid yl1be) 7) .ret)
def c_side : EB × List QOp × Nat := ((hid yb1bf), [(.mov (.t 2))], 9)
theorem k_side : cfun Tryz.prog 112 = some c_side := by kernel_rfl
@[simp] def yl1bg : UL | _ => [xQ 0 4 (.mov (.k (.bool false)))]
@[simp] def yl1bh : UL | _ => [xQ 6 11 (.pick (.t 8) (.t 10) (.k (.bool false))), xM 7 4 11]
@[simp] def yl1bi : UL | _ => xM 0 5 0 :: xM 1 6 1 :: xQ 2 7 (.bin .geq (.t 5) (.t 6)) :: xM 3 8 7 :: xG 4 9 8 true (.mov (.t 0)) :: xG 5 10 8 true (.bin .leq (.t 9) (xK 1125899906842624)) :: hid yl1bh
@[simp] def yb1bj : UB | _ => .seq (reg0 (hid yl1bg) 1) (.seq (reg0 (hid yl1bi) 8) .ret)
def c_amount : EB × List QOp × Nat := ((hid yb1bj), [(.mov (.t 4))], 12)
theorem k_amount : cfun Tryz.prog 119 = some c_amount := by kernel_rfl
@[simp] def yl1bk : UL | _ => [xQ 0 1 (.box 126 (.t 0)), xQ 1 2 (.mov (.k (.bool false)))]
@[simp] def yl1bl : UL | _ => [xG 30 33 31 true (.lda 32 (.t 32)), xG 31 34 31 true (.build zU8 []), xG 32 35 31 true (.eqa true 32 .u8 (.t 33) (.t 34)), xQ 33 36 (.pick (.t 31) (.t 35) (.k (.bool false))), xM 34 2 36]
@[simp] def yl1bm : UL | _ => xG 24 27 26 true (.fad 3 (.t 1)) :: xG 25 28 26 true (.ldc (.t 27)) :: xG 26 29 26 true (.bin .leq (.t 28) (xK 1099511627776)) :: xQ 27 30 (.pick (.t 26) (.t 29) (.k (.bool false))) :: xM 28 31 30 :: xG 29 32 31 true (.fad 4 (.t 1)) :: hid yl1bl
@[simp] def yl1bn : UL | _ => xM 18 21 20 :: xG 19 22 21 true (.fad 3 (.t 1)) :: xG 20 23 21 true (.ldc (.t 22)) :: xG 21 24 21 true (.bin .geq (.t 23) (xK 0)) :: xQ 22 25 (.pick (.t 21) (.t 24) (.k (.bool false))) :: xM 23 26 25 :: hid yl1bm
@[simp] def yl1bo : UL | _ => xQ 12 15 (.pick (.t 11) (.t 14) (.k (.bool false))) :: xM 13 16 15 :: xG 14 17 16 true (.fad 2 (.t 1)) :: xG 15 18 16 true (.ldc (.t 17)) :: ⟨16, (some 19), (some (16, true)), (.call 119 [(.t 18), (xK 10)]), []⟩ :: xQ 17 20 (.pick (.t 16) (.t 19) (.k (.bool false))) :: hid yl1bn
@[simp] def yl1bp : UL | _ => xG 6 9 6 true (.bin .leq (.t 8) (xK 4294967296)) :: xQ 7 10 (.pick (.t 6) (.t 9) (.k (.bool false))) :: xM 8 11 10 :: xG 9 12 11 true (.fad 1 (.t 1)) :: xG 10 13 11 true (.ldc (.t 12)) :: ⟨11, (some 14), (some (11, true)), (.call 112 [(.t 13)]), []⟩ :: hid yl1bo
@[simp] def yl1bq : UL | _ => xQ 0 3 (.fad 0 (.t 1)) :: xQ 1 4 (.ldc (.t 3)) :: xQ 2 5 (.bin .geq (.t 4) (xK 0)) :: xM 3 6 5 :: xG 4 7 6 true (.fad 0 (.t 1)) :: xG 5 8 6 true (.ldc (.t 7)) :: hid yl1bp
@[simp] def yb1br : UB | _ => .seq (reg0 (hid yl1bk) 2) (.seq (reg0 (hid yl1bq) 35) .ret)
def c_Pmay : EB × List QOp × Nat := ((hid yb1br), [(.mov (.t 2))], 37)
theorem k_Pmay : cfun Tryz.prog 113 = some c_Pmay := by kernel_rfl
@[simp] def yl1bs : UL | _ => [xQ 0 1 (.box 128 (.t 0)), xQ 1 2 (.mov (.k (.bool false)))]
@[simp] def yl1bt : UL | _ => [xQ 0 3 (.mov (.k (.int .i64 (-1))))]
@[simp] def yl1bu : UL | _ => [xQ 0 6 (.fad 2 (.t 1)), xQ 1 7 (.ldc (.t 6)), xQ 2 8 (.len (.t 7)), xQ 3 9 (.mov (xK 0))]
@[simp] def yl1bv : UL | _ => [xQ 0 10 (.bin .lss (.t 9) (.t 8))]
@[simp] def yl1bw : UL | _ => [xQ 0 11 (.isl 1 (.t 7) (.t 9)), xQ 1 12 (.ldc (.t 11)), xM 2 5 12]
@[simp] def yl1bx : UL | _ => [xQ 6 19 (.pick (.t 16) (.k (.bool true)) (.t 18))]
@[simp] def yl1by : UL | _ => xM 0 13 5 :: xM 1 14 3 :: xQ 2 15 (.bin .leq (.t 13) (.t 14)) :: xM 3 16 15 :: xG 4 17 16 false (.mov (.t 5)) :: xG 5 18 16 false (.bin .geq (.t 17) (xK 16)) :: hid yl1bx
@[simp] def yl1bz : UL | _ => [xQ 0 2 (.mov (.k (.bool false)))]
@[simp] def yb1c0 : UB | _ => .seq (reg0 (hid yl1by) 7) (.cond (.t 19) (.seq (reg0 (hid yl1bz) 1) .ret) .skip)
@[simp] def yl1c1 : UL | _ => [xM 0 20 5, xM 1 3 20]
@[simp] def yb1c2 : UB | _ => .seq (reg0 (hid yl1bw) 3) (.seq (hid yb1c0) (reg0 (hid yl1c1) 2))
@[simp] def yl1c3 : UL | _ => [xQ 0 21 (.bin .add (.t 9) (xK 1)), xM 1 9 21]
@[simp] def yb1c4 : UB | _ => .seq (.cond (.t 10) .skip (.exit 0)) (.seq (.block 1 (hid yb1c2)) (reg0 (hid yl1c3) 2))
@[simp] def yb1c5 : UB | _ => .seq (reg0 (hid yl1bu) 4) (.block 0 (.loop (.seq (reg0 (hid yl1bv) 1) (hid yb1c4))))
@[simp] def yl1c6 : UL | _ => [xQ 18 40 (.pick (.t 35) (.t 39) (.k (.bool false))), xM 19 2 40]
@[simp] def yl1c7 : UL | _ => xQ 12 34 (.pick (.t 30) (.t 33) (.k (.bool false))) :: xM 13 35 34 :: xG 14 36 35 true (.fad 2 (.t 1)) :: xG 15 37 35 true (.ldc (.t 36)) :: xG 16 38 35 true (.len (.t 37)) :: xG 17 39 35 true (.bin .geq (.t 38) (xK 1)) :: hid yl1c6
@[simp] def yl1c8 : UL | _ => xG 6 28 25 true (.bin .leq (.t 27) (xK 4294967296)) :: xQ 7 29 (.pick (.t 25) (.t 28) (.k (.bool false))) :: xM 8 30 29 :: xG 9 31 30 true (.fad 1 (.t 1)) :: xG 10 32 30 true (.ldc (.t 31)) :: ⟨11, (some 33), (some (30, true)), (.call 119 [(.t 32), (xK 10)]), []⟩ :: hid yl1c7
@[simp] def yl1c9 : UL | _ => xQ 0 22 (.fad 0 (.t 1)) :: xQ 1 23 (.ldc (.t 22)) :: xQ 2 24 (.bin .geq (.t 23) (xK 0)) :: xM 3 25 24 :: xG 4 26 25 true (.fad 0 (.t 1)) :: xG 5 27 25 true (.ldc (.t 26)) :: hid yl1c8
@[simp] def yb1ca : UB | _ => .seq (reg0 (hid yl1bt) 1) (.seq (hid yb1c5) (.seq (reg0 (hid yl1c9) 20) .ret))
@[simp] def yb1cb : UB | _ => .seq (reg0 (hid yl1bs) 2) (hid yb1ca)
def c_Hmay : EB × List QOp × Nat := ((hid yb1cb), [(.mov (.t 2))], 41)
theorem k_Hmay : cfun Tryz.prog 120 = some c_Hmay := by kernel_rfl
structure Pay where
  id : Int
  fr : Int
  am : Int
  af : Int
  lock : List UInt8
structure Hol where
  id : Int
  am : Int
  keys : List Int
structure Sta where
  num : Int
  h0 : Int
  h1 : Int
  pays : List Pay
  holds : List Hol
def i64 (n : Int) : Prop := -9223372036854775808 ≤ n ∧ n ≤ 9223372036854775807
def Pay.ok (p : Pay) : Prop := i64 p.id ∧ i64 p.fr ∧ i64 p.am ∧ i64 p.af ∧ p.lock.length = 32
def Hol.ok (h : Hol) : Prop := i64 h.id ∧ i64 h.am ∧ (∀ k ∈ h.keys, i64 k) ∧ h.keys.length ≤ 100000000
def Sta.ok (s : Sta) : Prop := i64 s.num ∧ i64 s.h0 ∧ i64 s.h1 ∧ (∀ p ∈ s.pays, p.ok) ∧ (∀ h ∈ s.holds, h.ok) ∧ s.pays.length ≤ 100000000 ∧ s.holds.length ≤ 100000000
def payF (p : Pay) : List FV := .lit (.int .i64 p.id) :: .lit (.int .i64 p.fr) :: .lit (.int .i64 p.am) :: .lit (.int .i64 p.af) :: hf p.lock
def intv (l : List Int) : List (List FV) := l.map fun k => [.lit (.int .i64 k)]
def holF (h : Hol) : List FV := [.lit (.int .i64 h.id), .lit (.int .i64 h.am), .sl 1 (intv h.keys)]
def payv (l : List Pay) : List (List FV) := l.map payF
def holv (l : List Hol) : List (List FV) := l.map holF
@[simp] theorem payv_len (l : List Pay) : (payv l).length = l.length := by simp [payv]
@[simp] theorem holv_len (l : List Hol) : (holv l).length = l.length := by simp [holv]
theorem payv_get {l : List Pay} {i : Nat} {p : Pay} (h : l[i]? = some p) : (payv l)[i]? = some (payF p) := by simp [payv, h]
theorem holv_get {l : List Hol} {i : Nat} {p : Hol} (h : l[i]? = some p) : (holv l)[i]? = some (holF p) := by simp [holv, h]
def payC (p : Pay) : List EC := .fz (.lit (.int .i64 p.id)) :: .fz (.lit (.int .i64 p.fr)) :: .fz (.lit (.int .i64 p.am)) :: .fz (.lit (.int .i64 p.af)) :: hc p.lock
def holC (h : Hol) : List EC := [.fz (.lit (.int .i64 h.id)), .fz (.lit (.int .i64 h.am)), .fz (.sl 1 (intv h.keys))]
def staC (s : Sta) : List EC := [.fz (.lit (.int .i64 s.num)), .fz (.lit (.int .i64 s.h0)), .fz (.lit (.int .i64 s.h1)), .fz (.sl 36 (payv s.pays)), .fz (.sl 3 (holv s.holds))]
def SV (s : Sta) : EV := .v (.agg (staC s))
theorem payF_len {p : Pay} (h : p.lock.length = 32) : (payF p).length = 36 := by simp [payF, h]
theorem payF_fz (p : Pay) : (payF p).map EC.fz = payC p := by simp [payF, payC]
theorem payC_len {p : Pay} (h : p.lock.length = 32) : (payC p).length = 36 := by simp [payC, h]
theorem payC_take {p : Pay} (h : p.lock.length = 32) : (payC p).take 36 = payC p := List.take_of_length_le (by rw [payC_len h]; omega)
theorem hc_t32 {l : List UInt8} (h : l.length = 32) : (hc l).take 32 = hc l := List.take_of_length_le (by rw [hc_len, h]; omega)
@[simp] theorem intv_len (l : List Int) : (intv l).length = l.length := by simp [intv]
def mayP (p : Pay) : Bool := decide (0 ≤ p.id ∧ p.id ≤ 4294967296 ∧ (p.fr = 0 ∨ p.fr = 1) ∧ 10 ≤ p.am ∧ p.am ≤ 1125899906842624 ∧ 0 ≤ p.af ∧ p.af ≤ 1099511627776 ∧ p.lock ≠ hz)
def keysS : Int → List Int → Bool
  | _, [] => true
  | last, k :: r => decide (last < k ∧ k < 16) && keysS k r
def mayH (h : Hol) : Bool := keysS (-1) h.keys && decide (0 ≤ h.id ∧ h.id ≤ 4294967296 ∧ 10 ≤ h.am ∧ h.am ≤ 1125899906842624 ∧ 1 ≤ h.keys.length)
def aft (o : Option Int) (n : Int) : Bool := match o with
  | none => true
  | some q => decide (q < n)
def payL : Option Int → List Pay → Bool
  | _, [] => true
  | o, p :: r => mayP p && aft o p.id && payL (some p.id) r
def holL : Option Int → List Hol → Bool
  | _, [] => true
  | o, h :: r => mayH h && aft o h.id && holL (some h.id) r
def sumP (l : List Pay) : Int := (l.map (·.am)).sum
def sumH (l : List Hol) : Int := (l.map (·.am)).sum
def total (s : Sta) : Int := s.h0 + s.h1 + sumP s.pays + sumH s.holds
def mayS (s : Sta) : Bool := decide (0 ≤ s.num ∧ s.num ≤ 1099511627776 ∧ 0 ≤ s.h0 ∧ s.h0 ≤ 1125899906842624 ∧ 0 ≤ s.h1 ∧ s.h1 ≤ 1125899906842624 ∧ s.pays.length ≤ 8 ∧ s.holds.length + s.pays.length ≤ 8) && payL none s.pays && holL none s.holds && decide (total s ≤ 1125899906842624)
theorem side_ok (n : Int) : ECalls Tryz.prog 112 [I .i64 n] [] fun y H' => H' = [] ∧ y = .lit (.bool (decide (n = 0 ∨ n = 1))) := by
  refine ecalls k_side ?_
  simp [c_side, I]
  by_cases h : n = 0
  · simp [h]
    exact fin0
  · simp [h]
    exact fin0
theorem amount_ok (n least : Int) : ECalls Tryz.prog 119 [I .i64 n, I .i64 least] [] fun y H' => H' = [] ∧ y = .lit (.bool (decide (least ≤ n ∧ n ≤ 1125899906842624))) := by
  refine ecalls k_amount ?_
  simp [c_amount, I]
  by_cases h : least ≤ n
  · simp [h]
    exact fin0
  · simp [h]
    exact fin0
theorem Pmay_ok (p : Pay) (hp : p.lock.length = 32) : ECalls Tryz.prog 113 [.v (.agg (payC p))] [] fun y H' => H' = [] ∧ y = .lit (.bool (mayP p)) := by
  have ht : p.lock.take 32 = p.lock := List.take_of_length_le (by omega)
  refine ecalls k_Pmay ?_
  simp [c_Pmay, payC, I, ht]
  refine alt (fun h1 => ?_) (fun h1 => ?_)
  rotate_left
  · (first | simp [I, EV.lit, h1, Int.not_le.2 h1] | simp [I, EV.lit, h1, Int.not_lt.2 h1] | simp [I, EV.lit, h1, Int.not_lt.1 h1] | simp [I, EV.lit, h1, Int.not_le.1 h1] | simp [I, EV.lit, h1])
    exact fin [] (by decide) rfl rfl rfl ⟨rfl, by rw [show mayP p = false from decide_eq_false (by omega)]⟩
  (first | simp [I, EV.lit, h1, Int.not_le.2 h1] | simp [I, EV.lit, h1, Int.not_lt.2 h1] | simp [I, EV.lit, h1, Int.not_lt.1 h1] | simp [I, EV.lit, h1, Int.not_le.1 h1] | simp [I, EV.lit, h1])
  refine alt (fun h2 => ?_) (fun h2 => ?_)
  rotate_left
  · (first | simp [I, EV.lit, h2, Int.not_le.2 h2] | simp [I, EV.lit, h2, Int.not_lt.2 h2] | simp [I, EV.lit, h2, Int.not_lt.1 h2] | simp [I, EV.lit, h2, Int.not_le.1 h2] | simp [I, EV.lit, h2])
    exact fin [] (by decide) rfl rfl rfl ⟨rfl, by rw [show mayP p = false from decide_eq_false (by omega)]⟩
  (first | simp [I, EV.lit, h2, Int.not_le.2 h2] | simp [I, EV.lit, h2, Int.not_lt.2 h2] | simp [I, EV.lit, h2, Int.not_lt.1 h2] | simp [I, EV.lit, h2, Int.not_le.1 h2] | simp [I, EV.lit, h2])
  refine call0 (side_ok p.fr) (by simp [I, EV.lit]) ?_
  rintro y H' ⟨rfl, rfl⟩
  refine ⟨.inl (by simp [I, EV.lit]), le_ok rfl, ?_⟩
  simp [EV.lit]
  refine alt (fun h3 => ?_) (fun h3 => ?_)
  rotate_left
  · (first | simp [I, EV.lit, h3, Int.not_le.2 h3] | simp [I, EV.lit, h3, Int.not_lt.2 h3] | simp [I, EV.lit, h3, Int.not_lt.1 h3] | simp [I, EV.lit, h3, Int.not_le.1 h3] | simp [I, EV.lit, h3])
    exact fin [] (by decide) rfl rfl rfl ⟨rfl, by rw [show mayP p = false from decide_eq_false (by omega)]⟩
  (first | simp [I, EV.lit, h3, Int.not_le.2 h3] | simp [I, EV.lit, h3, Int.not_lt.2 h3] | simp [I, EV.lit, h3, Int.not_lt.1 h3] | simp [I, EV.lit, h3, Int.not_le.1 h3] | simp [I, EV.lit, h3])
  refine call0 (amount_ok p.am 10) (by simp [I, EV.lit]) ?_
  rintro y H' ⟨rfl, rfl⟩
  refine ⟨.inl (by simp [I, EV.lit]), le_ok rfl, ?_⟩
  simp [EV.lit]
  refine alt (fun h4 => ?_) (fun h4 => ?_)
  rotate_left
  · (first | simp [I, EV.lit, h4, Int.not_le.2 h4] | simp [I, EV.lit, h4, Int.not_lt.2 h4] | simp [I, EV.lit, h4, Int.not_lt.1 h4] | simp [I, EV.lit, h4, Int.not_le.1 h4] | simp [I, EV.lit, h4])
    exact fin [] (by decide) rfl rfl rfl ⟨rfl, by rw [show mayP p = false from decide_eq_false (by omega)]⟩
  (first | simp [I, EV.lit, h4, Int.not_le.2 h4] | simp [I, EV.lit, h4, Int.not_lt.2 h4] | simp [I, EV.lit, h4, Int.not_lt.1 h4] | simp [I, EV.lit, h4, Int.not_le.1 h4] | simp [I, EV.lit, h4])
  refine alt (fun h5 => ?_) (fun h5 => ?_)
  rotate_left
  · (first | simp [I, EV.lit, h5, Int.not_le.2 h5] | simp [I, EV.lit, h5, Int.not_lt.2 h5] | simp [I, EV.lit, h5, Int.not_lt.1 h5] | simp [I, EV.lit, h5, Int.not_le.1 h5] | simp [I, EV.lit, h5])
    exact fin [] (by decide) rfl rfl rfl ⟨rfl, by rw [show mayP p = false from decide_eq_false (by omega)]⟩
  (first | simp [I, EV.lit, h5, Int.not_le.2 h5] | simp [I, EV.lit, h5, Int.not_lt.2 h5] | simp [I, EV.lit, h5, Int.not_lt.1 h5] | simp [I, EV.lit, h5, Int.not_le.1 h5] | simp [I, EV.lit, h5])
  refine alt (fun h6 => ?_) (fun h6 => ?_)
  rotate_left
  · (first | simp [I, EV.lit, h6, Int.not_le.2 h6] | simp [I, EV.lit, h6, Int.not_lt.2 h6] | simp [I, EV.lit, h6, Int.not_lt.1 h6] | simp [I, EV.lit, h6, Int.not_le.1 h6] | simp [I, EV.lit, h6])
    exact fin [] (by decide) rfl rfl rfl ⟨rfl, by rw [show mayP p = false from decide_eq_false (by omega)]⟩
  (first | simp [I, EV.lit, h6, Int.not_le.2 h6] | simp [I, EV.lit, h6, Int.not_lt.2 h6] | simp [I, EV.lit, h6, Int.not_lt.1 h6] | simp [I, EV.lit, h6, Int.not_le.1 h6] | simp [I, EV.lit, h6])
  refine alt (fun h7 => ?_) (fun h7 => ?_)
  rotate_left
  · simp [h7]
    exact fin [] (by decide) rfl rfl rfl ⟨rfl, by rw [show mayP p = false from decide_eq_false (by omega)]⟩
  simp [h7, hp, ht]
  have hm : mayP p = !decide (p.lock = hz) := by
    by_cases e : p.lock = hz
    · rw [show mayP p = false from decide_eq_false (fun h => h.2.2.2.2.2.2.2 e)]; simp [e]
    · rw [show mayP p = true from decide_eq_true ⟨by omega, by omega, by omega, by omega, by omega, by omega, by omega, e⟩]; simp [e]
  exact fin [] (by decide) rfl rfl rfl ⟨rfl, by rw [hm]⟩
theorem mayH_f {h : Hol} (q : ¬ (0 ≤ h.id ∧ h.id ≤ 4294967296 ∧ 10 ≤ h.am ∧ h.am ≤ 1125899906842624 ∧ 1 ≤ h.keys.length)) : mayH h = false := by simp only [mayH, decide_eq_false q, Bool.and_false]
theorem intv_get {l : List Int} {i : Nat} {k : Int} (h : l[i]? = some k) : (intv l)[i]? = some [.lit (.int .i64 k)] := by simp [intv, h]
def IL (l : List Int) : EV := .v (.c (.fz (.sl 1 (intv l))))
theorem Hmay_ok (h : Hol) (hk : h.keys.length ≤ 100000000) : ECalls Tryz.prog 120 [.v (.agg (holC h))] [] fun y H' => H' = [] ∧ y = .lit (.bool (mayH h)) := by
  refine ecalls k_Hmay ?_
  simp [c_Hmay, holC]
  refine eloop (α := Nat × Int) (fun a => a.1 ≤ h.keys.length ∧ keysS (-1) h.keys = keysS a.2 (h.keys.drop a.1)) (fun a => h.keys.length - a.1)
    (fun a => [xA, Ptr 0, xA, I .i64 a.2, xA, xA, xA, IL h.keys, I .i64 h.keys.length, I .i64 a.1, xA, xA, xA, xA, xA, xA, xA, xA, xA, xA, xA, xA, xA, xA, xA, xA, xA, xA, xA, xA, xA, xA, xA, xA, xA, xA, xA, xA, xA, xA, .any]) (fun a => [some (.box 128 (holC h))]) (0, -1) [0]
    ⟨by simp, by simp⟩ (by simp [Ptr, I, IL]) (by simp [holC]) (by simp) (by simp) (by simp) ?_
  rintro ⟨i, last⟩ ⟨hi1, hi2⟩
  simp [Ptr, I, IL, holC] at hi1 hi2 ⊢
  refine alt (fun hlt => ?_) (fun hlt => ?_)
  · obtain ⟨k, hc⟩ : ∃ k, h.keys[i]? = some k := ⟨h.keys[i], by simp [hlt]⟩
    have hcb := intv_get hc
    rw [drop_cons hc] at hi2
    have w1 := wS (i := i) (by omega)
    have hbad : ¬ (last < k ∧ k < 16) → mayH h = false := fun q => by simp only [mayH, hi2, keysS, decide_eq_false q, Bool.false_and]
    have hgood : last < k → k < 16 → keysS (-1) h.keys = keysS k (h.keys.drop (i + 1)) := fun q1 q2 => by rw [hi2, keysS, decide_eq_true ⟨q1, q2⟩, Bool.true_and]
    simp [hcb]
    refine alt (fun c1 => ?_) (fun c1 => ?_)
    rotate_left
    · (first | simp [I, EV.lit, c1, Int.not_le.2 c1] | simp [I, EV.lit, c1, Int.not_lt.2 c1] | simp [I, EV.lit, c1, Int.not_lt.1 c1] | simp [I, EV.lit, c1, Int.not_le.1 c1] | simp [I, EV.lit, c1])
      exact fin [] (by decide) rfl rfl rfl ⟨rfl, by rw [hbad (by omega)]⟩
    (first | simp [I, EV.lit, c1, Int.not_le.2 c1] | simp [I, EV.lit, c1, Int.not_lt.2 c1] | simp [I, EV.lit, c1, Int.not_lt.1 c1] | simp [I, EV.lit, c1, Int.not_le.1 c1] | simp [I, EV.lit, c1])
    refine alt (fun c2 => ?_) (fun c2 => ?_)
    · (first | simp [I, EV.lit, c2, Int.not_le.2 c2] | simp [I, EV.lit, c2, Int.not_lt.2 c2] | simp [I, EV.lit, c2, Int.not_lt.1 c2] | simp [I, EV.lit, c2, Int.not_le.1 c2] | simp [I, EV.lit, c2])
      exact fin [] (by decide) rfl rfl rfl ⟨rfl, by rw [hbad (by omega)]⟩
    (first | simp [I, EV.lit, c2, Int.not_le.2 c2, w1, -Int.natCast_add] | simp [I, EV.lit, c2, Int.not_lt.2 c2, w1, -Int.natCast_add] | simp [I, EV.lit, c2, Int.not_lt.1 c2, w1, -Int.natCast_add] | simp [I, EV.lit, c2, Int.not_le.1 c2, w1, -Int.natCast_add] | simp [I, EV.lit, c2, w1, -Int.natCast_add])
    exact round (i + 1, k) [0] ⟨by omega, hgood (by omega) (by omega)⟩ (by simp; omega) (by simp) (by simp) (by simp) (by simp) (by simp)
  · have hd : h.keys.drop i = [] := by rw [List.drop_eq_nil_iff]; omega
    have hks : keysS (-1) h.keys = true := by rw [hi2, hd]; rfl
    simp
    refine alt (fun c1 => ?_) (fun c1 => ?_)
    rotate_left
    · (first | simp [I, EV.lit, c1, Int.not_le.2 c1] | simp [I, EV.lit, c1, Int.not_lt.2 c1] | simp [I, EV.lit, c1, Int.not_lt.1 c1] | simp [I, EV.lit, c1, Int.not_le.1 c1] | simp [I, EV.lit, c1])
      exact fin [] (by decide) rfl rfl rfl ⟨rfl, by rw [mayH_f (by omega)]⟩
    (first | simp [I, EV.lit, c1, Int.not_le.2 c1] | simp [I, EV.lit, c1, Int.not_lt.2 c1] | simp [I, EV.lit, c1, Int.not_lt.1 c1] | simp [I, EV.lit, c1, Int.not_le.1 c1] | simp [I, EV.lit, c1])
    refine alt (fun c2 => ?_) (fun c2 => ?_)
    rotate_left
    · (first | simp [I, EV.lit, c2, Int.not_le.2 c2] | simp [I, EV.lit, c2, Int.not_lt.2 c2] | simp [I, EV.lit, c2, Int.not_lt.1 c2] | simp [I, EV.lit, c2, Int.not_le.1 c2] | simp [I, EV.lit, c2])
      exact fin [] (by decide) rfl rfl rfl ⟨rfl, by rw [mayH_f (by omega)]⟩
    (first | simp [I, EV.lit, c2, Int.not_le.2 c2] | simp [I, EV.lit, c2, Int.not_lt.2 c2] | simp [I, EV.lit, c2, Int.not_lt.1 c2] | simp [I, EV.lit, c2, Int.not_le.1 c2] | simp [I, EV.lit, c2])
    refine call0 (amount_ok h.am 10) (by simp [I, EV.lit]) ?_
    rintro y H' ⟨rfl, rfl⟩
    refine ⟨.inl (by simp [I, EV.lit]), le_ok rfl, ?_⟩
    simp [EV.lit]
    refine alt (fun c3 => ?_) (fun c3 => ?_)
    rotate_left
    · (first | simp [I, EV.lit, c3, Int.not_le.2 c3] | simp [I, EV.lit, c3, Int.not_lt.2 c3] | simp [I, EV.lit, c3, Int.not_lt.1 c3] | simp [I, EV.lit, c3, Int.not_le.1 c3] | simp [I, EV.lit, c3])
      exact fin [] (by decide) rfl rfl rfl ⟨rfl, by rw [mayH_f (by omega)]⟩
    (first | simp [I, EV.lit, c3, Int.not_le.2 c3] | simp [I, EV.lit, c3, Int.not_lt.2 c3] | simp [I, EV.lit, c3, Int.not_lt.1 c3] | simp [I, EV.lit, c3, Int.not_le.1 c3] | simp [I, EV.lit, c3])
    by_cases q : 1 ≤ h.keys.length
    · have hm : mayH h = true := by
        simp only [mayH, hks, Bool.true_and]
        exact decide_eq_true ⟨by omega, by omega, by omega, by omega, q⟩
      exact fin [] (by decide) rfl rfl rfl ⟨rfl, litB (by rw [hm]; exact decide_eq_true (by omega))⟩
    · exact fin [] (by decide) rfl rfl rfl ⟨rfl, litB (by rw [mayH_f (by omega)]; exact decide_eq_false (by omega))⟩
@[simp] def yl1cc : UL | _ => [xQ 0 1 (.box 47 (.t 0)), xQ 1 2 (.mov (.k (.bool false)))]
@[simp] def yl1cd : UL | _ => [xG 36 44 36 false (.bin .gtr (.t 39) (.t 43)), xQ 37 45 (.pick (.t 36) (.k (.bool true)) (.t 44))]
@[simp] def yl1ce : UL | _ => xG 30 38 36 false (.ldc (.t 37)) :: xG 31 39 36 false (.len (.t 38)) :: xG 32 40 36 false (.fad 3 (.t 1)) :: xG 33 41 36 false (.ldc (.t 40)) :: xG 34 42 36 false (.len (.t 41)) :: xG 35 43 36 false (.bin .sub (xK 8) (.t 42)) :: hid yl1cd
@[simp] def yl1cf : UL | _ => xG 24 32 30 false (.ldc (.t 31)) :: xG 25 33 30 false (.len (.t 32)) :: xG 26 34 30 false (.bin .gtr (.t 33) (xK 8)) :: xQ 27 35 (.pick (.t 30) (.k (.bool true)) (.t 34)) :: xM 28 36 35 :: xG 29 37 36 false (.fad 4 (.t 1)) :: hid yl1ce
@[simp] def yl1cg : UL | _ => xG 18 26 23 false (.ldc (.t 25)) :: ⟨19, (some 27), (some (23, false)), (.call 119 [(.t 26), (xK 0)]), []⟩ :: xG 20 28 23 false (.un .not (.t 27)) :: xQ 21 29 (.pick (.t 23) (.k (.bool true)) (.t 28)) :: xM 22 30 29 :: xG 23 31 30 false (.fad 3 (.t 1)) :: hid yl1cf
@[simp] def yl1ch : UL | _ => ⟨12, (some 20), (some (16, false)), (.call 119 [(.t 19), (xK 0)]), []⟩ :: xG 13 21 16 false (.un .not (.t 20)) :: xQ 14 22 (.pick (.t 16) (.k (.bool true)) (.t 21)) :: xM 15 23 22 :: xG 16 24 23 false (.fad 1 (.t 1)) :: xG 17 25 23 false (.iad 2 1 (.t 24) (xK 1)) :: hid yl1cg
@[simp] def yl1ci : UL | _ => xG 6 14 11 false (.bin .gtr (.t 13) (xK 1099511627776)) :: xQ 7 15 (.pick (.t 11) (.k (.bool true)) (.t 14)) :: xM 8 16 15 :: xG 9 17 16 false (.fad 1 (.t 1)) :: xG 10 18 16 false (.iad 2 1 (.t 17) (xK 0)) :: xG 11 19 16 false (.ldc (.t 18)) :: hid yl1ch
@[simp] def yl1cj : UL | _ => xQ 0 8 (.fad 0 (.t 1)) :: xQ 1 9 (.ldc (.t 8)) :: xQ 2 10 (.bin .lss (.t 9) (xK 0)) :: xM 3 11 10 :: xG 4 12 11 false (.fad 0 (.t 1)) :: xG 5 13 11 false (.ldc (.t 12)) :: hid yl1ci
@[simp] def yl1ck : UL | _ => [xQ 0 2 (.mov (.k (.bool false)))]
@[simp] def yb1cl : UB | _ => .seq (reg0 (hid yl1cj) 38) (.cond (.t 45) (.seq (reg0 (hid yl1ck) 1) .ret) .skip)
@[simp] def yl1cm : UL | _ => [xQ 6 52 (.bin .add (.t 48) (.t 51)), xM 7 3 52]
@[simp] def yl1cn : UL | _ => xQ 0 46 (.fad 1 (.t 1)) :: xQ 1 47 (.iad 2 1 (.t 46) (xK 0)) :: xQ 2 48 (.ldc (.t 47)) :: xQ 3 49 (.fad 1 (.t 1)) :: xQ 4 50 (.iad 2 1 (.t 49) (xK 1)) :: xQ 5 51 (.ldc (.t 50)) :: hid yl1cm
@[simp] def yl1co : UL | _ => [xQ 0 53 (.fad 3 (.t 1)), xQ 1 54 (.ldc (.t 53)), xQ 2 55 (.len (.t 54)), xQ 3 56 (.mov (xK 0))]
@[simp] def yl1cp : UL | _ => [xQ 0 57 (.bin .lss (.t 56) (.t 55))]
@[simp] def yl1cq : UL | _ => [xM 0 58 56, xQ 1 59 (.isl 36 (.t 54) (.t 56)), xQ 2 60 (.lda 36 (.t 59)), xQ 3 5 (.alloc 126 (([xZ, xZ, xZ, xZ] : List Value) ++ zU8)), xM 4 4 58, xN 5 (.sto 36 (.t 5) (.t 60))]
@[simp] def yl1cr : UL | _ => [xQ 18 79 (.pick (.t 64) (.k (.bool true)) (.t 78))]
@[simp] def yl1cs : UL | _ => xG 12 73 67 true (.fad 0 (.t 72)) :: xG 13 74 67 true (.ldc (.t 73)) :: xG 14 75 67 true (.fad 0 (.t 5)) :: xG 15 76 67 true (.ldc (.t 75)) :: xG 16 77 67 true (.bin .geq (.t 74) (.t 76)) :: xG 17 78 64 false (.pick (.t 67) (.t 77) (.k (.bool false))) :: hid yl1cr
@[simp] def yl1ct : UL | _ => xG 6 67 64 false (.mov (.t 66)) :: xG 7 68 67 true (.fad 3 (.t 1)) :: xG 8 69 67 true (.ldc (.t 68)) :: xG 9 70 67 true (.mov (.t 4)) :: xG 10 71 67 true (.bin .sub (.t 70) (xK 1)) :: xG 11 72 67 true (.isl 36 (.t 69) (.t 71)) :: hid yl1cs
@[simp] def yl1cu : UL | _ => xQ 0 61 (.lda 36 (.t 5)) :: xO 1 62 (.call 113 [(.t 61)]) :: xQ 2 63 (.un .not (.t 62)) :: xM 3 64 63 :: xG 4 65 64 false (.mov (.t 4)) :: xG 5 66 64 false (.bin .gtr (.t 65) (xK 0)) :: hid yl1ct
@[simp] def yl1cv : UL | _ => [xQ 0 2 (.mov (.k (.bool false)))]
@[simp] def yb1cw : UB | _ => .seq (reg0 (hid yl1cu) 19) (.cond (.t 79) (.seq (reg0 (hid yl1cv) 1) .ret) .skip)
@[simp] def yl1cx : UL | _ => [xM 0 80 3, xQ 1 81 (.fad 2 (.t 5)), xQ 2 82 (.ldc (.t 81)), xQ 3 83 (.bin .add (.t 80) (.t 82)), xM 4 3 83]
@[simp] def yb1cy : UB | _ => .seq (reg0 (hid yl1cq) 6) (.seq (hid yb1cw) (reg0 (hid yl1cx) 5))
@[simp] def yl1cz : UL | _ => [xQ 0 84 (.bin .add (.t 56) (xK 1)), xM 1 56 84]
@[simp] def yb1d0 : UB | _ => .seq (.cond (.t 57) .skip (.exit 0)) (.seq (.block 1 (hid yb1cy)) (reg0 (hid yl1cz) 2))
@[simp] def yb1d1 : UB | _ => .seq (reg0 (hid yl1co) 4) (.block 0 (.loop (.seq (reg0 (hid yl1cp) 1) (hid yb1d0))))
@[simp] def yl1d2 : UL | _ => [xQ 0 85 (.fad 4 (.t 1)), xQ 1 86 (.ldc (.t 85)), xQ 2 87 (.len (.t 86)), xQ 3 88 (.mov (xK 0))]
@[simp] def yl1d3 : UL | _ => [xQ 0 89 (.bin .lss (.t 88) (.t 87))]
@[simp] def yl1d4 : UL | _ => [xM 0 90 88, xQ 1 91 (.isl 3 (.t 86) (.t 88)), xQ 2 92 (.lda 3 (.t 91)), xQ 3 7 (.alloc 128 [xZ, xZ, xS]), xM 4 6 90, xN 5 (.fz (.sto 3 (.t 7) (.t 92)))]
@[simp] def yl1d5 : UL | _ => [xQ 18 111 (.pick (.t 96) (.k (.bool true)) (.t 110))]
@[simp] def yl1d6 : UL | _ => xG 12 105 99 true (.fad 0 (.t 104)) :: xG 13 106 99 true (.ldc (.t 105)) :: xG 14 107 99 true (.fad 0 (.t 7)) :: xG 15 108 99 true (.ldc (.t 107)) :: xG 16 109 99 true (.bin .geq (.t 106) (.t 108)) :: xG 17 110 96 false (.pick (.t 99) (.t 109) (.k (.bool false))) :: hid yl1d5
@[simp] def yl1d7 : UL | _ => xG 6 99 96 false (.mov (.t 98)) :: xG 7 100 99 true (.fad 4 (.t 1)) :: xG 8 101 99 true (.ldc (.t 100)) :: xG 9 102 99 true (.mov (.t 6)) :: xG 10 103 99 true (.bin .sub (.t 102) (xK 1)) :: xG 11 104 99 true (.isl 3 (.t 101) (.t 103)) :: hid yl1d6
@[simp] def yl1d8 : UL | _ => xQ 0 93 (.lda 3 (.t 7)) :: xO 1 94 (.call 120 [(.t 93)]) :: xQ 2 95 (.un .not (.t 94)) :: xM 3 96 95 :: xG 4 97 96 false (.mov (.t 6)) :: xG 5 98 96 false (.bin .gtr (.t 97) (xK 0)) :: hid yl1d7
@[simp] def yl1d9 : UL | _ => [xQ 0 2 (.mov (.k (.bool false)))]
@[simp] def yb1da : UB | _ => .seq (reg0 (hid yl1d8) 19) (.cond (.t 111) (.seq (reg0 (hid yl1d9) 1) .ret) .skip)
@[simp] def yl1db : UL | _ => [xM 0 112 3, xQ 1 113 (.fad 1 (.t 7)), xQ 2 114 (.ldc (.t 113)), xQ 3 115 (.bin .add (.t 112) (.t 114)), xM 4 3 115]
@[simp] def yb1dc : UB | _ => .seq (reg0 (hid yl1d4) 6) (.seq (hid yb1da) (reg0 (hid yl1db) 5))
@[simp] def yl1dd : UL | _ => [xQ 0 116 (.bin .add (.t 88) (xK 1)), xM 1 88 116]
@[simp] def yb1de : UB | _ => .seq (.cond (.t 89) .skip (.exit 2)) (.seq (.block 3 (hid yb1dc)) (reg0 (hid yl1dd) 2))
@[simp] def yb1df : UB | _ => .seq (reg0 (hid yl1d2) 4) (.block 2 (.loop (.seq (reg0 (hid yl1d3) 1) (hid yb1de))))
@[simp] def yl1dg : UL | _ => [xM 0 117 3, xQ 1 118 (.bin .leq (.t 117) (xK 1125899906842624)), xM 2 2 118]
@[simp] def yb1dh : UB | _ => .seq (hid yb1d1) (.seq (hid yb1df) (.seq (reg0 (hid yl1dg) 3) .ret))
@[simp] def yb1di : UB | _ => .seq (reg0 (hid yl1cc) 2) (.seq (hid yb1cl) (.seq (reg0 (hid yl1cn) 8) (hid yb1dh)))
def c_Smay : EB × List QOp × Nat := ((hid yb1di), [(.mov (.t 2))], 119)
theorem k_Smay : cfun Tryz.prog 69 = some c_Smay := by kernel_rfl
theorem mayS_f {s : Sta} (q : ¬ (0 ≤ s.num ∧ s.num ≤ 1099511627776 ∧ 0 ≤ s.h0 ∧ s.h0 ≤ 1125899906842624 ∧ 0 ≤ s.h1 ∧ s.h1 ≤ 1125899906842624 ∧ s.pays.length ≤ 8 ∧ s.holds.length + s.pays.length ≤ 8)) : mayS s = false := by simp only [mayS, decide_eq_false q, Bool.false_and]
theorem mayS_p {s : Sta} (q : payL none s.pays = false) : mayS s = false := by simp only [mayS, q, Bool.and_false, Bool.false_and]
theorem mayS_h {s : Sta} (q : holL none s.holds = false) : mayS s = false := by simp only [mayS, q, Bool.and_false, Bool.false_and]
def prevP (l : List Pay) (i : Nat) : Option Int := if i = 0 then none else (l[i - 1]?).map (·.id)
def prevH (l : List Hol) (i : Nat) : Option Int := if i = 0 then none else (l[i - 1]?).map (·.id)
def PL (l : List Pay) : EV := .v (.c (.fz (.sl 36 (payv l))))
def HL (l : List Hol) : EV := .v (.c (.fz (.sl 3 (holv l))))
theorem sumP_snoc (l : List Pay) (p : Pay) : sumP (l ++ [p]) = sumP l + p.am := by simp [sumP]
theorem sumH_snoc (l : List Hol) (p : Hol) : sumH (l ++ [p]) = sumH l + p.am := by simp [sumH]
theorem take_s {α : Type} {l : List α} {i : Nat} {c : α} (h : l[i]? = some c) : l.take (i + 1) = l.take i ++ [c] := by rw [List.take_add_one, h]; rfl
theorem mayP_am {p : Pay} (h : mayP p = true) : 10 ≤ p.am ∧ p.am ≤ 1125899906842624 := by
  have := of_decide_eq_true h
  omega
theorem mayH_am {p : Hol} (h : mayH p = true) : 10 ≤ p.am ∧ p.am ≤ 1125899906842624 := by
  simp only [mayH, Bool.and_eq_true, decide_eq_true_eq] at h
  omega
theorem Smay_ok (s : Sta) (hs : s.ok) : ECalls Tryz.prog 69 [SV s] [] fun y H' => H' = [] ∧ y = .lit (.bool (mayS s)) := by
  obtain ⟨ok1, ok2, ok3, ok4, ok5, ok6, ok7⟩ := hs
  refine ecalls k_Smay ?_
  simp [c_Smay, SV, staC]
  refine alt (fun a1 => ?_) (fun a1 => ?_)
  rotate_left
  · (first | simp [I, EV.lit, a1, Int.not_le.2 a1] | simp [I, EV.lit, a1, Int.not_lt.2 a1] | simp [I, EV.lit, a1, Int.not_lt.1 a1] | simp [I, EV.lit, a1, Int.not_le.1 a1] | simp [I, EV.lit, a1])
    exact fin [] (by decide) rfl rfl rfl ⟨rfl, by rw [mayS_f (by omega)]⟩
  (first | simp [I, EV.lit, a1, Int.not_le.2 a1] | simp [I, EV.lit, a1, Int.not_lt.2 a1] | simp [I, EV.lit, a1, Int.not_lt.1 a1] | simp [I, EV.lit, a1, Int.not_le.1 a1] | simp [I, EV.lit, a1])
  refine alt (fun a2 => ?_) (fun a2 => ?_)
  rotate_left
  · (first | simp [I, EV.lit, a2, Int.not_le.2 a2] | simp [I, EV.lit, a2, Int.not_lt.2 a2] | simp [I, EV.lit, a2, Int.not_lt.1 a2] | simp [I, EV.lit, a2, Int.not_le.1 a2] | simp [I, EV.lit, a2])
    exact fin [] (by decide) rfl rfl rfl ⟨rfl, by rw [mayS_f (by omega)]⟩
  (first | simp [I, EV.lit, a2, Int.not_le.2 a2] | simp [I, EV.lit, a2, Int.not_lt.2 a2] | simp [I, EV.lit, a2, Int.not_lt.1 a2] | simp [I, EV.lit, a2, Int.not_le.1 a2] | simp [I, EV.lit, a2])
  refine call0 (amount_ok s.h0 0) (by simp [I, EV.lit]) ?_
  rintro y H' ⟨rfl, rfl⟩
  refine ⟨.inl (by simp [I, EV.lit]), le_ok rfl, ?_⟩
  cases hb3 : decide (0 ≤ s.h0 ∧ s.h0 ≤ 1125899906842624)
  · have a3 := of_decide_eq_false hb3
    simp [EV.lit]
    exact fin [] (by decide) rfl rfl rfl ⟨rfl, by rw [mayS_f (by omega)]⟩
  have a3 := of_decide_eq_true hb3
  simp [EV.lit]
  refine call0 (amount_ok s.h1 0) (by simp [I, EV.lit]) ?_
  rintro y H' ⟨rfl, rfl⟩
  refine ⟨.inl (by simp [I, EV.lit]), le_ok rfl, ?_⟩
  cases hb4 : decide (0 ≤ s.h1 ∧ s.h1 ≤ 1125899906842624)
  · have a4 := of_decide_eq_false hb4
    simp [EV.lit]
    exact fin [] (by decide) rfl rfl rfl ⟨rfl, by rw [mayS_f (by omega)]⟩
  have a4 := of_decide_eq_true hb4
  simp [EV.lit]
  refine alt (fun a5 => ?_) (fun a5 => ?_)
  rotate_left
  · (first | simp [I, EV.lit, a5, Int.not_le.2 a5] | simp [I, EV.lit, a5, Int.not_lt.2 a5] | simp [I, EV.lit, a5, Int.not_lt.1 a5] | simp [I, EV.lit, a5, Int.not_le.1 a5] | simp [I, EV.lit, a5])
    exact fin [] (by decide) rfl rfl rfl ⟨rfl, by rw [mayS_f (by omega)]⟩
  (first | simp [I, EV.lit, a5, Int.not_le.2 a5] | simp [I, EV.lit, a5, Int.not_lt.2 a5] | simp [I, EV.lit, a5, Int.not_lt.1 a5] | simp [I, EV.lit, a5, Int.not_le.1 a5] | simp [I, EV.lit, a5])
  have w0 : IntKind.i64.wrap (8 - (s.pays.length : Int)) = 8 - (s.pays.length : Int) := wrap_i64 (by omega) (by omega)
  have w1 : IntKind.i64.wrap (s.h0 + s.h1) = s.h0 + s.h1 := wrap_i64 (by omega) (by omega)
  rw [w0]
  refine alt (fun a6 => ?_) (fun a6 => ?_)
  · simp
    exact fin [] (by decide) rfl rfl rfl ⟨rfl, by rw [mayS_f (by omega)]⟩
  simp [w1]
  refine eloop (α := Nat × Int) (fun a => a.1 ≤ s.pays.length ∧ payL none s.pays = payL (prevP s.pays a.1) (s.pays.drop a.1) ∧ a.2 = s.h0 + s.h1 + sumP (s.pays.take a.1) ∧ 0 ≤ a.2 ∧ a.2 ≤ 2251799813685248 + (a.1 : Int) * 1125899906842624) (fun a => s.pays.length - a.1)
    (fun a => [xA, Ptr 0, xA, I .i64 a.2, xA, xA, xA, xA, xA, xA, xA, xA, xA, xA, xA, xA, xA, xA, xA, xA, xA, xA, xA, xA, xA, xA, xA, xA, xA, xA, xA, xA, xA, xA, xA, xA, xA, xA, xA, xA, xA, xA, xA, xA, xA, xA, xA, xA, xA, xA, xA, xA, xA, xA, PL s.pays, I .i64 s.pays.length, I .i64 a.1, xA, xA, xA, xA, xA, xA, xA, xA, xA, xA, xA, xA, xA, xA, xA, xA, xA, xA, xA, xA, xA, xA, xA, xA, xA, xA, xA, xA, xA, xA, xA, xA, xA, xA, xA, xA, xA, xA, xA, xA, xA, xA, xA, xA, xA, xA, xA, xA, xA, xA, xA, xA, xA, xA, xA, xA, xA, xA, xA, xA, xA, .any]) (fun a => [some (.box 47 (staC s))]) (0, s.h0 + s.h1) [0]
    ⟨by simp, by simp [prevP], by simp [sumP], by simp; omega, by simp; omega⟩ (by simp [Ptr, I, PL]) (by simp [staC]) (by simp) (by simp) (by simp) ?_
  rintro ⟨i, n⟩ ⟨hi1, hi2, hi3, hi4, hi5⟩
  simp [Ptr, I, PL, staC] at hi1 hi2 hi3 hi4 hi5 ⊢
  refine alt (fun hlt => ?_) (fun hlt => ?_)
  · obtain ⟨p, hc⟩ : ∃ p, s.pays[i]? = some p := ⟨s.pays[i], by simp [hlt]⟩
    have hpo := ok4 p (List.mem_of_getElem? hc)
    have hl32 := hpo.2.2.2.2
    have ht : p.lock.take 32 = p.lock := List.take_of_length_le (by omega)
    have hcb := payv_get hc
    rw [drop_cons hc] at hi2
    have w2 := wS (i := i) (by omega)
    have w3 : IntKind.i64.wrap ((i : Int) - 1) = (i : Int) - 1 := wrap_i64 (by omega) (by omega)
    simp [hcb, payF, hl32, ht]
    refine call0 (Pmay_ok p hl32) (by simp [payC]) ?_
    rintro y H' ⟨rfl, rfl⟩
    refine ⟨.inl (by simp), le_ok rfl, ?_⟩
    cases hm : mayP p
    · simp [EV.lit]
      exact fin [] (by decide) rfl rfl rfl ⟨rfl, by rw [mayS_p (by rw [hi2, payL, hm]; simp)]⟩
    have ham := mayP_am hm
    have w4 : IntKind.i64.wrap (n + p.am) = n + p.am := wrap_i64 (by omega) (by omega)
    have hnx : ∀ (q : aft (prevP s.pays i) p.id = true), payL none s.pays = payL (prevP s.pays (i + 1)) (s.pays.drop (i + 1)) := by
      intro q
      rw [hi2, payL, hm, q]
      simp [prevP, hc]
    have hsum : n + p.am = s.h0 + s.h1 + sumP (s.pays.take (i + 1)) := by rw [take_s hc, sumP_snoc]; omega
    simp [EV.lit]
    refine alt (fun h0 => ?_) (fun h0 => ?_)
    · obtain ⟨q, hq⟩ : ∃ q, s.pays[i - 1]? = some q := ⟨s.pays[i - 1]'(by omega), by simp⟩
      have hqb := payv_get hq
      have hti : ((i : Int) - 1).toNat = i - 1 := by omega
      have hpv : prevP s.pays i = some q.id := by simp [prevP, hq, show i ≠ 0 by omega]
      have h1 : (1 : Int) ≤ (i : Int) := by omega
      simp [h0, w3, hqb, hti, payF, h1]
      refine alt (fun c1 => ?_) (fun c1 => ?_)
      · simp
        exact fin [] (by decide) rfl rfl rfl ⟨rfl, by rw [mayS_p (by rw [hi2, payL, hm, hpv]; simp [aft, decide_eq_false (show ¬ q.id < p.id by omega)])]⟩
      simp [w2, w4, -Int.natCast_add]
      exact round (i + 1, n + p.am) [0] ⟨by omega, hnx (by rw [hpv]; exact decide_eq_true (by omega)), hsum, by simp; omega, by simp; omega⟩ (by simp; omega) (by simp) (by simp) (by simp) (by simp) (by simp)
    · have hi0 : i = 0 := by omega
      subst hi0
      simp [w4, IntKind.wrap_i64]
      exact round (1, n + p.am) [0] ⟨by omega, hnx (by simp [prevP, aft]), hsum, by simp; omega, by simp; omega⟩ (by simp; omega) (by simp) (by simp) (by simp) (by simp) (by simp)
  have hil : i = s.pays.length := by omega
  subst hil
  have hps : payL none s.pays = true := by rw [hi2]; simp [payL]
  rw [List.take_length] at hi3
  simp
  refine eloop (α := Nat × Int) (fun a => a.1 ≤ s.holds.length ∧ holL none s.holds = holL (prevH s.holds a.1) (s.holds.drop a.1) ∧ a.2 = s.h0 + s.h1 + sumP s.pays + sumH (s.holds.take a.1) ∧ 0 ≤ a.2 ∧ a.2 ≤ 22517998136852480 + (a.1 : Int) * 1125899906842624) (fun a => s.holds.length - a.1)
    (fun a => [xA, Ptr 0, xA, I .i64 a.2, xA, xA, xA, xA, xA, xA, xA, xA, xA, xA, xA, xA, xA, xA, xA, xA, xA, xA, xA, xA, xA, xA, xA, xA, xA, xA, xA, xA, xA, xA, xA, xA, xA, xA, xA, xA, xA, xA, xA, xA, xA, xA, xA, xA, xA, xA, xA, xA, xA, xA, xA, xA, xA, xA, xA, xA, xA, xA, xA, xA, xA, xA, xA, xA, xA, xA, xA, xA, xA, xA, xA, xA, xA, xA, xA, xA, xA, xA, xA, xA, xA, xA, HL s.holds, I .i64 s.holds.length, I .i64 a.1, xA, xA, xA, xA, xA, xA, xA, xA, xA, xA, xA, xA, xA, xA, xA, xA, xA, xA, xA, xA, xA, xA, xA, xA, xA, xA, xA, xA, xA, .any]) (fun a => [some (.box 47 (staC s))]) (0, n) [0]
    ⟨by simp, by simp [prevH], by simp [sumH]; omega, hi4, by simp; omega⟩ (by simp [Ptr, I, HL]) (by simp [staC]) (by simp) (by simp) (by simp) ?_
  clear hi1 hi2 hi3 hi4 hi5 hlt
  clear n
  rintro ⟨i, n⟩ ⟨hi1, hi2, hi3, hi4, hi5⟩
  simp [Ptr, I, HL, staC] at hi1 hi2 hi3 hi4 hi5 ⊢
  refine alt (fun hlt => ?_) (fun hlt => ?_)
  · obtain ⟨p, hc⟩ : ∃ p, s.holds[i]? = some p := ⟨s.holds[i], by simp [hlt]⟩
    have hpo := ok5 p (List.mem_of_getElem? hc)
    have hcb := holv_get hc
    rw [drop_cons hc] at hi2
    have w2 := wS (i := i) (by omega)
    have w3 : IntKind.i64.wrap ((i : Int) - 1) = (i : Int) - 1 := wrap_i64 (by omega) (by omega)
    simp [hcb, holF]
    refine call0 (Hmay_ok p hpo.2.2.2) (by simp [holC]) ?_
    rintro y H' ⟨rfl, rfl⟩
    refine ⟨.inl (by simp), le_ok rfl, ?_⟩
    cases hm : mayH p
    · simp [EV.lit]
      exact fin [] (by decide) rfl rfl rfl ⟨rfl, by rw [mayS_h (by rw [hi2, holL, hm]; simp)]⟩
    have ham := mayH_am hm
    have w4 : IntKind.i64.wrap (n + p.am) = n + p.am := wrap_i64 (by omega) (by omega)
    have hnx : ∀ (q : aft (prevH s.holds i) p.id = true), holL none s.holds = holL (prevH s.holds (i + 1)) (s.holds.drop (i + 1)) := by
      intro q
      rw [hi2, holL, hm, q]
      simp [prevH, hc]
    have hsum : n + p.am = s.h0 + s.h1 + sumP s.pays + sumH (s.holds.take (i + 1)) := by rw [take_s hc, sumH_snoc]; omega
    simp [EV.lit]
    refine alt (fun h0 => ?_) (fun h0 => ?_)
    · obtain ⟨q, hq⟩ : ∃ q, s.holds[i - 1]? = some q := ⟨s.holds[i - 1]'(by omega), by simp⟩
      have hqb := holv_get hq
      have hti : ((i : Int) - 1).toNat = i - 1 := by omega
      have hpv : prevH s.holds i = some q.id := by simp [prevH, hq, show i ≠ 0 by omega]
      have h1 : (1 : Int) ≤ (i : Int) := by omega
      simp [h0, w3, hqb, hti, holF, h1]
      refine alt (fun c1 => ?_) (fun c1 => ?_)
      · simp
        exact fin [] (by decide) rfl rfl rfl ⟨rfl, by rw [mayS_h (by rw [hi2, holL, hm, hpv]; simp [aft, decide_eq_false (show ¬ q.id < p.id by omega)])]⟩
      simp [w2, w4, -Int.natCast_add]
      exact round (i + 1, n + p.am) [0] ⟨by omega, hnx (by rw [hpv]; exact decide_eq_true (by omega)), hsum, by simp; omega, by simp; omega⟩ (by simp; omega) (by simp) (by simp) (by simp) (by simp) (by simp)
    · have hi0 : i = 0 := by omega
      subst hi0
      simp [w4, IntKind.wrap_i64]
      exact round (1, n + p.am) [0] ⟨by omega, hnx (by simp [prevH, aft]), hsum, by simp; omega, by simp; omega⟩ (by simp; omega) (by simp) (by simp) (by simp) (by simp) (by simp)
  have hil : i = s.holds.length := by omega
  subst hil
  have hhs : holL none s.holds = true := by rw [hi2]; simp [holL]
  rw [List.take_length] at hi3
  have hS : mayS s = decide (n ≤ 1125899906842624) := by
    simp only [mayS, hps, hhs, Bool.and_true]
    rw [decide_eq_true (show 0 ≤ s.num ∧ s.num ≤ 1099511627776 ∧ 0 ≤ s.h0 ∧ s.h0 ≤ 1125899906842624 ∧ 0 ≤ s.h1 ∧ s.h1 ≤ 1125899906842624 ∧ s.pays.length ≤ 8 ∧ s.holds.length + s.pays.length ≤ 8 by omega), Bool.true_and, hi3]
    rfl
  simp
  exact fin [] (by decide) rfl rfl rfl ⟨rfl, by rw [hS]⟩
@[simp] def yl1dj : UL | _ => [xQ 0 1 (.box 47 (.t 0)), xQ 1 2 (.mov (xK 0))]
@[simp] def yl1dk : UL | _ => [xQ 0 8 (.lda 5 (.t 1)), xO 1 9 (.call 69 [(.t 8)]), xQ 2 10 (.un .not (.t 9))]
@[simp] def yl1dl : UL | _ => [xQ 0 2 (.mov (xK 0))]
@[simp] def yb1dm : UB | _ => .seq (reg0 (hid yl1dk) 3) (.cond (.t 10) (.seq (reg0 (hid yl1dl) 1) .ret) .skip)
@[simp] def yl1dn : UL | _ => [xQ 6 17 (.bin .add (.t 13) (.t 16)), xM 7 3 17]
@[simp] def yl1do : UL | _ => xQ 0 11 (.fad 1 (.t 1)) :: xQ 1 12 (.iad 2 1 (.t 11) (xK 0)) :: xQ 2 13 (.ldc (.t 12)) :: xQ 3 14 (.fad 1 (.t 1)) :: xQ 4 15 (.iad 2 1 (.t 14) (xK 1)) :: xQ 5 16 (.ldc (.t 15)) :: hid yl1dn
@[simp] def yl1dp : UL | _ => [xQ 0 18 (.fad 3 (.t 1)), xQ 1 19 (.ldc (.t 18)), xQ 2 20 (.len (.t 19)), xQ 3 21 (.mov (xK 0))]
@[simp] def yl1dq : UL | _ => [xQ 0 22 (.bin .lss (.t 21) (.t 20))]
@[simp] def yl1dr : UL | _ => [xQ 0 23 (.isl 36 (.t 19) (.t 21)), xQ 1 24 (.lda 36 (.t 23)), xQ 2 5 (.alloc 126 (([xZ, xZ, xZ, xZ] : List Value) ++ zU8)), xN 3 (.sto 36 (.t 5) (.t 24))]
@[simp] def yl1ds : UL | _ => [xM 0 25 3, xQ 1 26 (.fad 2 (.t 5)), xQ 2 27 (.ldc (.t 26)), xQ 3 28 (.bin .add (.t 25) (.t 27)), xM 4 3 28]
@[simp] def yl1dt : UL | _ => [xQ 0 29 (.bin .add (.t 21) (xK 1)), xM 1 21 29]
@[simp] def yb1du : UB | _ => .seq (.block 1 (.seq (reg0 (hid yl1dr) 4) (reg0 (hid yl1ds) 5))) (reg0 (hid yl1dt) 2)
@[simp] def yb1dv : UB | _ => .seq (reg0 (hid yl1dq) 1) (.seq (.cond (.t 22) .skip (.exit 0)) (hid yb1du))
@[simp] def yl1dw : UL | _ => [xQ 0 30 (.fad 4 (.t 1)), xQ 1 31 (.ldc (.t 30)), xQ 2 32 (.len (.t 31)), xQ 3 33 (.mov (xK 0))]
@[simp] def yl1dx : UL | _ => [xQ 0 34 (.bin .lss (.t 33) (.t 32))]
@[simp] def yl1dy : UL | _ => [xQ 0 35 (.isl 3 (.t 31) (.t 33)), xQ 1 36 (.lda 3 (.t 35)), xQ 2 7 (.alloc 128 [xZ, xZ, xS]), xN 3 (.fz (.sto 3 (.t 7) (.t 36)))]
@[simp] def yl1dz : UL | _ => [xM 0 37 3, xQ 1 38 (.fad 1 (.t 7)), xQ 2 39 (.ldc (.t 38)), xQ 3 40 (.bin .add (.t 37) (.t 39)), xM 4 3 40]
@[simp] def yl1e0 : UL | _ => [xQ 0 41 (.bin .add (.t 33) (xK 1)), xM 1 33 41]
@[simp] def yb1e1 : UB | _ => .seq (.block 3 (.seq (reg0 (hid yl1dy) 4) (reg0 (hid yl1dz) 5))) (reg0 (hid yl1e0) 2)
@[simp] def yb1e2 : UB | _ => .seq (reg0 (hid yl1dx) 1) (.seq (.cond (.t 34) .skip (.exit 2)) (hid yb1e1))
@[simp] def yl1e3 : UL | _ => [xM 0 42 3, xM 1 2 42]
@[simp] def yb1e4 : UB | _ => .seq (.seq (reg0 (hid yl1dw) 4) (.block 2 (.loop (hid yb1e2)))) (.seq (reg0 (hid yl1e3) 2) .ret)
@[simp] def yb1e5 : UB | _ => .seq (.seq (reg0 (hid yl1dp) 4) (.block 0 (.loop (hid yb1dv)))) (hid yb1e4)
@[simp] def yb1e6 : UB | _ => .seq (reg0 (hid yl1dj) 2) (.seq (hid yb1dm) (.seq (reg0 (hid yl1do) 8) (hid yb1e5)))
def c_Total : EB × List QOp × Nat := ((hid yb1e6), [(.mov (.t 2))], 43)
theorem k_Total : cfun Tryz.prog 37 = some c_Total := by kernel_rfl
@[simp] def yl1e7 : UL | _ => [xQ 0 2 (.mov (.k xS))]
@[simp] def yb1e8 : UB | _ => reg0 (hid yl1e7) 1
@[simp] def yl1e9 : UL | _ => [xM 0 3 0, xO 1 4 (.nild false (.t 3))]
@[simp] def yb1ea : UB | _ => reg0 (hid yl1e9) 2
@[simp] def yl1eb : UL | _ => [xQ 0 2 (.mov (.k xS))]
@[simp] def yb1ec : UB | _ => reg0 (hid yl1eb) 1
@[simp] def yl1ed : UL | _ => [xQ 0 5 (.bsr 126 36 (([xZ, xZ, xZ, xZ] : List Value) ++ zU8) 0 []), xM 1 6 0, xO 2 7 (.app 126 36 64 (.t 5) (.t 6)), xM 3 2 7]
@[simp] def yb1ee : UB | _ => reg0 (hid yl1ed) 4
@[simp] def yl1ef : UL | _ => [xQ 0 2 (.mov (.k xS))]
@[simp] def yb1eg : UB | _ => reg0 (hid yl1ef) 1
@[simp] def yl1eh : UL | _ => [xM 0 3 0, xO 1 4 (.nild false (.t 3))]
@[simp] def yb1ei : UB | _ => reg0 (hid yl1eh) 2
@[simp] def yl1ej : UL | _ => [xQ 0 2 (.mov (.k xS))]
@[simp] def yb1ek : UB | _ => reg0 (hid yl1ej) 1
@[simp] def yl1el : UL | _ => [xQ 0 5 (.bsr 128 3 [xZ, xZ, xS] 0 []), xM 1 6 0, xO 2 7 (.app 128 3 40 (.t 5) (.t 6)), xM 3 2 7]
@[simp] def yb1em : UB | _ => reg0 (hid yl1el) 4
@[simp] def yl1en : UL | _ => [xQ 0 2 (.mov (.k xS))]
@[simp] def yl1eo : UL | _ => [xM 0 3 0, xO 1 4 (.nild false (.t 3))]
@[simp] def yl1ep : UL | _ => [xQ 0 2 (.mov (.k xS))]
@[simp] def yb1eq : UB | _ => .seq (reg0 (hid yl1eo) 2) (.cond (.t 4) (.seq (reg0 (hid yl1ep) 1) .ret) .skip)
@[simp] def yl1er : UL | _ => [xQ 0 5 (.bsr 3 1 [xZ] 0 []), xM 1 6 0, xO 2 7 (.app 3 1 8 (.t 5) (.t 6)), xM 3 2 7]
@[simp] def yb1es : UB | _ => .seq (reg0 (hid yl1en) 1) (.seq (hid yb1eq) (.seq (reg0 (hid yl1er) 4) .ret))
def c_cloneI : EB × List QOp × Nat := ((hid yb1es), [(.mov (.t 2))], 8)
theorem k_cloneI : cfun Tryz.prog 100 = some c_cloneI := by kernel_rfl
theorem mayS_t {s : Sta} (h : mayS s = true) : (0 ≤ s.num ∧ s.num ≤ 1099511627776 ∧ 0 ≤ s.h0 ∧ s.h0 ≤ 1125899906842624 ∧ 0 ≤ s.h1 ∧ s.h1 ≤ 1125899906842624 ∧ s.pays.length ≤ 8 ∧ s.holds.length + s.pays.length ≤ 8) ∧ payL none s.pays = true ∧ holL none s.holds = true ∧ total s ≤ 1125899906842624 := by
  simp only [mayS, Bool.and_eq_true, decide_eq_true_eq] at h
  exact ⟨h.1.1.1, h.1.1.2, h.1.2, h.2⟩
theorem payL_am : ∀ {o : Option Int} {l : List Pay}, payL o l = true → ∀ p ∈ l, 10 ≤ p.am ∧ p.am ≤ 1125899906842624
  | _, [], _, p, hp => by simp at hp
  | o, q :: r, h, p, hp => by
    simp only [payL, Bool.and_eq_true] at h
    rcases List.mem_cons.1 hp with rfl | hp
    · exact mayP_am h.1.1
    · exact payL_am h.2 p hp
theorem holL_am : ∀ {o : Option Int} {l : List Hol}, holL o l = true → ∀ p ∈ l, 10 ≤ p.am ∧ p.am ≤ 1125899906842624
  | _, [], _, p, hp => by simp at hp
  | o, q :: r, h, p, hp => by
    simp only [holL, Bool.and_eq_true] at h
    rcases List.mem_cons.1 hp with rfl | hp
    · exact mayH_am h.1.1
    · exact holL_am h.2 p hp
def totS (s : Sta) : Int := if mayS s = true then total s else 0
theorem Total_ok (s : Sta) (hs : s.ok) : ECalls Tryz.prog 37 [SV s] [] fun y H' => H' = [] ∧ y = I .i64 (totS s) := by
  obtain ⟨ok1, ok2, ok3, ok4, ok5, ok6, ok7⟩ := id hs
  refine ecalls k_Total ?_
  simp [c_Total, SV, staC]
  refine call0 (Smay_ok s hs) (by simp [SV, staC]) ?_
  rintro y H' ⟨rfl, rfl⟩
  cases hm : mayS s
  · have ht : totS s = 0 := by simp [totS, hm]
    rw [ht]
    simp [EV.lit, I]
    exact fin0
  have ht : totS s = total s := by simp [totS, hm]
  obtain ⟨hr, hp, hh, htot⟩ := mayS_t hm
  rw [ht]
  have w1 : IntKind.i64.wrap (s.h0 + s.h1) = s.h0 + s.h1 := wrap_i64 (by omega) (by omega)
  simp [EV.lit, w1]
  refine eloop (α := Nat × Int) (fun a => a.1 ≤ s.pays.length ∧ a.2 = s.h0 + s.h1 + sumP (s.pays.take a.1) ∧ 0 ≤ a.2 ∧ a.2 ≤ 2251799813685248 + (a.1 : Int) * 1125899906842624) (fun a => s.pays.length - a.1)
    (fun a => [xA, Ptr 0, xA, I .i64 a.2, xA, xA, xA, xA, xA, xA, xA, xA, xA, xA, xA, xA, xA, xA, xA, PL s.pays, I .i64 s.pays.length, I .i64 a.1, xA, xA, xA, xA, xA, xA, xA, xA, xA, xA, xA, xA, xA, xA, xA, xA, xA, xA, xA, xA, .any]) (fun a => [some (.box 47 (staC s))]) (0, s.h0 + s.h1) [0]
    ⟨by simp, by simp [sumP], by simp; omega, by simp; omega⟩ (by simp [Ptr, I, PL]) (by simp [staC]) (by simp) (by simp) (by simp) ?_
  rintro ⟨i, n⟩ ⟨hi1, hi3, hi4, hi5⟩
  simp [Ptr, I, PL, staC] at hi1 hi3 hi4 hi5 ⊢
  refine alt (fun hlt => ?_) (fun hlt => ?_)
  · obtain ⟨p, hc⟩ : ∃ p, s.pays[i]? = some p := ⟨s.pays[i], by simp [hlt]⟩
    have hl32 := (ok4 p (List.mem_of_getElem? hc)).2.2.2.2
    have ht : p.lock.take 32 = p.lock := List.take_of_length_le (by omega)
    have hcb := payv_get hc
    have ham := payL_am hp p (List.mem_of_getElem? hc)
    have w2 := wS (i := i) (by omega)
    have w4 : IntKind.i64.wrap (n + p.am) = n + p.am := wrap_i64 (by omega) (by omega)
    simp [hcb, payF, hl32, ht, w2, w4, -Int.natCast_add]
    exact round (i + 1, n + p.am) [0] ⟨by omega, by rw [take_s hc, sumP_snoc]; omega, by simp; omega, by simp; omega⟩ (by simp; omega) (by simp) (by simp) (by simp) (by simp) (by simp)
  have hil : i = s.pays.length := by omega
  subst hil
  rw [List.take_length] at hi3
  simp
  refine eloop (α := Nat × Int) (fun a => a.1 ≤ s.holds.length ∧ a.2 = s.h0 + s.h1 + sumP s.pays + sumH (s.holds.take a.1) ∧ 0 ≤ a.2 ∧ a.2 ≤ 22517998136852480 + (a.1 : Int) * 1125899906842624) (fun a => s.holds.length - a.1)
    (fun a => [xA, xA, xA, I .i64 a.2, xA, xA, xA, xA, xA, xA, xA, xA, xA, xA, xA, xA, xA, xA, xA, xA, xA, xA, xA, xA, xA, xA, xA, xA, xA, xA, xA, HL s.holds, I .i64 s.holds.length, I .i64 a.1, xA, xA, xA, xA, xA, xA, xA, xA, .any]) (fun a => []) (0, n) []
    ⟨by simp, by simp [sumH]; omega, hi4, by simp; omega⟩ (by simp [Ptr, I, HL]) (by simp [staC]) (by simp) (by simp) (by simp) ?_
  clear hi1 hi3 hi4 hi5 hlt
  clear n
  rintro ⟨i, n⟩ ⟨hi1, hi3, hi4, hi5⟩
  simp [Ptr, I, HL, staC] at hi1 hi3 hi4 hi5 ⊢
  refine alt (fun hlt => ?_) (fun hlt => ?_)
  · obtain ⟨p, hc⟩ : ∃ p, s.holds[i]? = some p := ⟨s.holds[i], by simp [hlt]⟩
    have hcb := holv_get hc
    have ham := holL_am hh p (List.mem_of_getElem? hc)
    have w2 := wS (i := i) (by omega)
    have w4 : IntKind.i64.wrap (n + p.am) = n + p.am := wrap_i64 (by omega) (by omega)
    simp [hcb, holF, w2, w4, -Int.natCast_add]
    exact round (i + 1, n + p.am) [] ⟨by omega, by rw [take_s hc, sumH_snoc]; omega, by simp; omega, by simp; omega⟩ (by simp; omega) (by simp) (by simp) (by simp) (by simp) (by simp)
  have hil : i = s.holds.length := by omega
  subst hil
  rw [List.take_length] at hi3
  simp
  exact fin [] (by decide) rfl rfl rfl ⟨rfl, by rw [hi3]; rfl⟩
theorem cloneI_ok (l : List Int) (hl : l.length ≤ 100000000) : ECalls Tryz.prog 100 [IL l] [] fun y H' => H' = [some (.row 3 1 (intv l))] ∧ y = .v (.c (.row 0 l.length)) := by
  refine ecalls k_cloneI ?_
  simp [c_cloneI, IL]
  refine both (fun h => ?_) (fun _ => ?_)
  · simp
    refine finW _ (weak_nilR 2 3 1 rfl (by omega)) ?_
    have hn : l = [] := by cases l <;> simp_all
    subst hn
    exact fin [64] (by decide) rfl rfl rfl ⟨rfl, rfl⟩
  · simp
    exact ⟨by omega, fin [80] (by decide) rfl rfl rfl ⟨rfl, by simp⟩⟩
end Go.Proofs.YtflcfdeanneoeaaGreatDoor
