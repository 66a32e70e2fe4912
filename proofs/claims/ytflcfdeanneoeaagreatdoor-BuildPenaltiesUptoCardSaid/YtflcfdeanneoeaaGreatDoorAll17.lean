import Derived.Test.YtflcfdeanneoeaaGreatDoorAll7
import Derived.Test.YtflcfdeanneoeaaGreatDoorAll14
import Derived.Test.YtflcfdeanneoeaaGreatDoorAll13
import Derived.Test.YtflcfdeanneoeaaGreatDoorAll6
import Derived.Test.YtflcfdeanneoeaaGreatDoorAll16
import Derived.Test.YtflcfdeanneoeaaGreatDoorProg
import Derived.Test.YtflcfdeanneoeaaGreatDoorAll5
import Derived.WalkKit
import Derived.LaidEql
import Derived.RowKitTokens
import Derived.Lib.AppendZeros
import Derived.Test.YtflcfdeanneoeaaGreatDoorAll10
set_option maxHeartbeats 64000000
namespace Go.Proofs.YtflcfdeanneoeaaGreatDoor
open Go Go.EW
set_option linter.unusedSimpArgs false
set_option linter.unusedVariables false
def u64n (n : Int) : Nat := (n % 18446744073709551616).toNat
theorem u64n_lt (n : Int) : u64n n < 18446744073709551616 := by unfold u64n; omega
theorem wrap_u64n (n : Int) : IntKind.u64.wrap n = (u64n n : Int) := by
  simp [IntKind.wrap, IntKind.bits, IntKind.signed, u64n]
  omega
def uB (n : Int) : List UInt8 := uintB (u64n n)
def usB (l : List Int) : List UInt8 := l.flatMap uB
theorem uB_len (n : Int) : (uB n).length ≤ 9 := by
  have := nb_8 (u64n_lt n)
  simp [uB, uintB, dg_len]; omega
theorem usB_len : ∀ (l : List Int), (usB l).length ≤ 9 * l.length
  | [] => by simp [usB]
  | n :: r => by
    have h1 := uB_len n
    have h2 := usB_len r
    have : usB (n :: r) = uB n ++ usB r := by simp [usB]
    rw [this, List.length_append, List.length_cons]
    omega
theorem usB_snoc (l : List Int) (n : Int) : usB (l ++ [n]) = usB l ++ uB n := by simp [usB]
def Sta.small (s : Sta) : Prop := s.pays.length ≤ 1000 ∧ s.holds.length ≤ 1000 ∧ ∀ h ∈ s.holds, h.keys.length ≤ 1000
theorem flat_len {α : Type} {f : α → List UInt8} {k : Nat} : ∀ {l : List α}, (∀ x ∈ l, (f x).length ≤ k) → (l.flatMap f).length ≤ k * l.length
  | [], _ => by simp
  | x :: r, h => by
    have h1 := h x (by simp)
    have h2 := flat_len (l := r) (fun y hy => h y (by simp [hy]))
    rw [List.flatMap_cons, List.length_append, List.length_cons, Nat.mul_succ]
    omega
@[simp] def yllr : UL | _ => [xQ 0 2 (.mov (.k xS))]
@[simp] def ylls : UL | _ => [xQ 0 3 (.mov (.k xS))]
@[simp] def yllt : UL | _ => [xM 0 5 0, xQ 1 6 (.bin .gtr (.t 5) (.k (.int .u64 0)))]
@[simp] def yllu : UL | _ => [xQ 0 4 (.mov (.k xS))]
@[simp] def yllv : UL | _ => [xM 6 13 3, xO 7 14 (.app 5 1 1 (.t 12) (.t 13)), xM 8 3 14]
@[simp] def yllw : UL | _ => xM 0 7 4 :: xM 1 8 0 :: xQ 2 9 (.bin .rem (.t 8) (.k (.int .u64 256))) :: xQ 3 10 (.cnv .u8 (.t 9)) :: xQ 4 11 (.bsl 1 [(.int .u8 0)] 1 [(0, (.t 10))]) :: xO 5 12 (.app 5 1 1 (.t 7) (.t 11)) :: hid yllv
@[simp] def yllx : UL | _ => [xM 0 15 0, xQ 1 16 (.bin .quo (.t 15) (.k (.int .u64 256))), xM 2 0 16]
@[simp] def ybly : UB | _ => .seq (reg0 (hid yllu) 1) (.seq (reg0 (hid yllw) 9) (reg0 (hid yllx) 3))
@[simp] def yblz : UB | _ => .seq (.seq (reg0 (hid yllt) 2) (.cond (.t 6) .skip (.exit 0))) (.block 1 (hid ybly))
@[simp] def ylm0 : UL | _ => [xM 0 17 3, xM 1 2 17]
@[simp] def ybm1 : UB | _ => .seq (.block 0 (.loop (hid yblz))) (.seq (reg0 (hid ylm0) 2) .ret)
@[simp] def ybm2 : UB | _ => .seq (reg0 (hid yllr) 1) (.seq (reg0 (hid ylls) 1) (hid ybm1))
def c_digits : EB × List QOp × Nat := ((hid ybm2), [(.mov (.t 2))], 18)
theorem k_digits : cfun Tryz.prog 173 = some c_digits := by kernel_rfl
@[simp] def ylm3 : UL | _ => [xQ 0 2 (.mov (.k xS))]
@[simp] def ylm4 : UL | _ => [xQ 0 3 (.mov (.k xS))]
@[simp] def ylm5 : UL | _ => [xM 0 4 3, xM 1 5 0, xO 2 6 (.app 5 1 1 (.t 4) (.t 5)), xM 3 2 6]
@[simp] def ybm6 : UB | _ => .seq (reg0 (hid ylm3) 1) (.seq (reg0 (hid ylm4) 1) (.seq (reg0 (hid ylm5) 4) .ret))
def c_own : EB × List QOp × Nat := ((hid ybm6), [(.mov (.t 2))], 7)
theorem k_own : cfun Tryz.prog 174 = some c_own := by kernel_rfl
@[simp] def ylm7 : UL | _ => [xQ 0 4 (.mov (.k xS))]
@[simp] def ylm8 : UL | _ => [xM 0 6 1, xO 1 7 (.call 173 [(.t 6)]), xM 2 5 7]
@[simp] def ylm9 : UL | _ => [xO 6 14 (.app 5 1 1 (.t 9) (.t 13)), xM 7 15 5, xO 8 16 (.app 5 1 1 (.t 14) (.t 15)), xM 9 4 16]
@[simp] def ylma : UL | _ => xM 0 8 0 :: xO 1 9 (.call 174 [(.t 8)]) :: xM 2 10 5 :: xQ 3 11 (.len (.t 10)) :: xQ 4 12 (.cnv .u8 (.t 11)) :: xQ 5 13 (.bsl 1 [(.int .u8 0)] 1 [(0, (.t 12))]) :: hid ylm9
@[simp] def ybmb : UB | _ => .seq (reg0 (hid ylm7) 1) (.seq (reg0 (hid ylm8) 3) (.seq (reg0 (hid ylma) 10) .ret))
def c_RUint : EB × List QOp × Nat := ((hid ybmb), [(.mov (.t 4))], 17)
theorem k_RUint : cfun Tryz.prog 147 = some c_RUint := by kernel_rfl
@[simp] def ylmc : UL | _ => [xQ 0 4 (.mov (.k xS))]
@[simp] def ylmd : UL | _ => [xM 0 7 0, xO 1 8 (.call 174 [(.t 7)]), xM 2 5 8]
@[simp] def ylme : UL | _ => [xQ 0 6 (.mov (xK 0))]
@[simp] def ylmf : UL | _ => [xM 0 9 6, xM 1 10 1, xQ 2 11 (.len (.t 10)), xQ 3 12 (.bin .lss (.t 9) (.t 11))]
@[simp] def ylmg : UL | _ => [xO 6 21 (.app 5 1 1 (.t 15) (.t 20)), xM 7 5 21]
@[simp] def ylmh : UL | _ => xM 0 15 5 :: xM 1 16 1 :: xM 2 17 6 :: xQ 3 18 (.isl 1 (.t 16) (.t 17)) :: xQ 4 19 (.ldc (.t 18)) :: xQ 5 20 (.bsl 1 [(.int .u8 0)] 1 [(0, (.t 19))]) :: hid ylmg
@[simp] def ylmi : UL | _ => [xM 0 22 1, xM 1 23 6, xQ 2 24 (.isl 1 (.t 22) (.t 23)), xQ 3 25 (.ldc (.t 24)), xQ 4 26 (.bin .eql (.t 25) (.k (.int .u8 0)))]
@[simp] def ylmj : UL | _ => [xM 0 27 5, xQ 1 28 (.bsl 1 [(.int .u8 0)] 1 [(0, (.k (.int .u8 255)))]), xO 2 29 (.app 5 1 1 (.t 27) (.t 28)), xM 3 5 29]
@[simp] def ybmk : UB | _ => .seq (reg0 (hid ylmi) 5) (.cond (.t 26) (reg0 (hid ylmj) 4) .skip)
@[simp] def ylml : UL | _ => [xM 0 13 6, xQ 1 14 (.bin .add (.t 13) (xK 1)), xM 2 6 14]
@[simp] def ybmm : UB | _ => .seq (.block 1 (.seq (reg0 (hid ylmh) 8) (hid ybmk))) (reg0 (hid ylml) 3)
@[simp] def ybmn : UB | _ => .seq (.seq (reg0 (hid ylmf) 4) (.cond (.t 12) .skip (.exit 0))) (hid ybmm)
@[simp] def ylmo : UL | _ => [xM 0 30 5, xQ 1 31 (.bsl 1 [(.int .u8 0)] 2 [(0, (.k (.int .u8 0))), (1, (.k (.int .u8 0)))]), xO 2 32 (.app 5 1 1 (.t 30) (.t 31)), xM 3 4 32]
@[simp] def ybmp : UB | _ => .seq (.seq (reg0 (hid ylme) 1) (.block 0 (.loop (hid ybmn)))) (.seq (reg0 (hid ylmo) 4) .ret)
@[simp] def ybmq : UB | _ => .seq (reg0 (hid ylmc) 1) (.seq (reg0 (hid ylmd) 3) (hid ybmp))
def c_RBytes : EB × List QOp × Nat := ((hid ybmq), [(.mov (.t 4))], 33)
theorem k_RBytes : cfun Tryz.prog 149 = some c_RBytes := by kernel_rfl
@[simp] def ylmr : UL | _ => [xQ 0 3 (.box 23 (.t 1)), xQ 1 4 (.mov (.k xS))]
@[simp] def ylms : UL | _ => [xM 0 5 0, xQ 2 7 (.sar 32 (.t 3) none none), ⟨1, (some 6), none, (.call 174 [(.t 5)]), [2]⟩, xO 3 8 (.app 5 1 1 (.t 6) (.t 7)), xM 4 4 8]
@[simp] def ybmt : UB | _ => .seq (reg0 (hid ylmr) 2) (.seq (reg1 (hid ylms) 5) .ret)
def c_RHash : EB × List QOp × Nat := ((hid ybmt), [(.mov (.t 4))], 9)
theorem k_RHash : cfun Tryz.prog 148 = some c_RHash := by kernel_rfl
theorem digits_ok (n : Nat) (h : n < 18446744073709551616) : ECalls Tryz.prog 173 [I .u64 n] [] fun y H' => H' = [some (RO (dg n))] ∧ y = R 0 (dg n) := by
  refine ecalls k_digits ?_
  simp [c_digits, I]
  refine loopW _ (weak_nilR 3 5 1 rfl (by omega)) ?_
  refine eloop (α := Nat × List UInt8) (fun a => a.1 < 18446744073709551616 ∧ a.2.length ≤ 8 ∧ dg a.1 ++ a.2 = dg n) (fun a => a.1)
    (fun a => [I .u64 a.1, xA, xA, R 0 a.2, xA, xA, xA, xA, xA, xA, xA, xA, xA, xA, xA, xA, xA, .any]) (fun a => [some (RO a.2)]) (n, []) [32] ⟨h, by simp, by simp⟩ (by simp [R, I]) (by simp [RO]) (by simp) (by simp) (by simp) ?_
  rintro ⟨k, ds⟩ ⟨hk, hdl, hds⟩
  simp [I, R, RO] at hk hdl hds ⊢
  refine alt (fun hp => ?_) (fun hp => ?_)
  · have h8 := nb_8 h
    have hst := dg_step (n := k) (by omega)
    have hl := congrArg List.length hds
    rw [hst] at hds hl
    simp [dg_len] at hl
    have w1 : IntKind.u8.wrap ((k : Int).tmod 256) = ((b8 k).toNat : Int) := by
      rw [Int.tmod_eq_emod_of_nonneg (by omega), IntKind.wrap_u8, b8_nat]; omega
    have w2 : IntKind.u64.wrap ((k : Int) / 256) = ((k / 256 : Nat) : Int) := by
      rw [wrap_u64 (by omega) (by omega)]; rfl
    simp [w1, w2, -Int.natCast_ediv]
    exact ⟨by omega, round (k / 256, b8 k :: ds) [161] ⟨by simp; omega, by simp; omega, by simpa using hds⟩ (by simp; omega) (by simp; omega) (by simp [bsv, cb]) (by simp) (by simp) (by simp)⟩
  · have : k = 0 := by omega
    subst this
    simp [dg_zero] at hds
    subst hds
    simp
    exact fin [0] (by decide) rfl rfl rfl ⟨rfl, rfl⟩
theorem own_ok (b : List UInt8) (hb : b.length ≤ 1000000000) : ECalls Tryz.prog 174 [Bs b] [] fun y H' => H' = [some (RO b)] ∧ y = R 0 b := by
  refine ecalls k_own ?_
  simp [c_own, Bs]
  exact ⟨by omega, fin [64] (by decide) rfl rfl rfl ⟨rfl, rfl⟩⟩
theorem RUint_ok (b : List UInt8) (n : Nat) (h : n < 18446744073709551616) (hb : b.length ≤ 900000000) : ECalls Tryz.prog 147 [Bs b, I .u64 n] [] fun y H' => H' = [some (RO (b ++ uintB n))] ∧ y = R 0 (b ++ uintB n) := by
  have h8 := nb_8 h
  refine ecalls k_RUint ?_
  simp [c_RUint, I, Bs]
  refine call0 (digits_ok n h) rfl ?_
  rintro y H' ⟨rfl, rfl⟩
  refine ⟨.inl rfl, le_ok rfl, ?_⟩
  simp [R, RO]
  refine call0 (own_ok b (by omega)) rfl ?_
  rintro y H' ⟨rfl, rfl⟩
  refine ⟨.inl rfl, le_ok rfl, ?_⟩
  simp [R, RO]
  exact ⟨by omega, by simp [dg_len]; omega, fin [192] (by decide) rfl rfl rfl ⟨by simp [uintB, dg_len, wrap_u8_nat, bsv, cb], by simp [uintB]; omega⟩⟩
theorem RBytes_ok (b l : List UInt8) (hb : b.length ≤ 900000000) (hl : l.length ≤ 10000000) : ECalls Tryz.prog 149 [Bs b, Bs l] [] fun y H' => H' = [some (RO (b ++ bytesB l))] ∧ y = R 0 (b ++ bytesB l) := by
  refine ecalls k_RBytes ?_
  simp [c_RBytes, Bs]
  refine call0 (own_ok b (by omega)) rfl ?_
  rintro y H' ⟨rfl, rfl⟩
  refine ⟨.inl rfl, le_ok rfl, ?_⟩
  simp [R, RO]
  refine eloop (α := Nat) (fun i => i ≤ l.length) (fun i => l.length - i)
    (fun i => [xA, Bs l, xA, xA, xA, R 0 (b ++ stuffB (l.take i)), I .i64 i, xA, xA, xA, xA, xA, xA, xA, xA, xA, xA, xA, xA, xA, xA, xA, xA, xA, xA, xA, xA, xA, xA, xA, xA, xA, .any]) (fun i => [some (RO (b ++ stuffB (l.take i)))]) 0 [32]
    (Nat.zero_le _) (by simp [Bs, I, R, stuffB]) (by simp [RO, stuffB]) (by simp) (by simp) (by simp) ?_
  intro i hi
  have hle := stuff_len (l.take i)
  have hlt : (l.take i).length = i := by simp; omega
  simp [I, Bs, R, RO]
  refine alt (fun hp => ?_) (fun hp => ?_)
  · obtain ⟨c, hc⟩ : ∃ c, l[i]? = some c := ⟨l[i], by simp [hp]⟩
    have hcb : (bsv l)[i]? = some (cb c) := by simp [bsv, hc]
    have hts := take_snoc hc
    have w1 := wS (i := i) (by omega)
    simp [hcb, cb]
    refine ⟨by omega, alt (fun hz => ?_) (fun hz => ?_)⟩
    · have hc0 : c = 0 := by apply UInt8.toNat_inj.1; simpa using hz
      have hst : stuffB (l.take (i + 1)) = stuffB (l.take i) ++ [0, 255] := by rw [hts, stuff_snoc, if_pos hc0]
      simp [w1, -Int.natCast_add]
      refine ⟨by omega, round (i + 1) [305] (by omega) (by omega) ?_ ?_ (by simp) (by simp) (by simp)⟩
      · simp [hst]; omega
      · subst hc0; simp [hst, bsv, cb]
    · have hc0 : c ≠ 0 := by rintro rfl; exact hz rfl
      have hst : stuffB (l.take (i + 1)) = stuffB (l.take i) ++ [c] := by rw [hts, stuff_snoc, if_neg hc0]
      simp [w1, -Int.natCast_add]
      refine round (i + 1) [161] (by omega) (by omega) ?_ ?_ (by simp) (by simp) (by simp)
      · simp [hst]; omega
      · simp [hst, bsv, cb]
  · have hil : i = l.length := by omega
    subst hil
    simp at hle
    simp
    exact ⟨by omega, fin [97] (by decide) rfl rfl rfl ⟨by simp [bytesB, bsv, cb], by simp [bytesB]; omega⟩⟩
theorem RHash_ok (b h : List UInt8) (hb : b.length ≤ 900000000) (hl : h.length = 32) : ECalls Tryz.prog 148 [Bs b, Ag h] [] fun y H' => H' = [some (RO (b ++ h))] ∧ y = R 0 (b ++ h) := by
  refine ecalls k_RHash ?_
  have ht : h.take 32 = h := List.take_of_length_le (by omega)
  simp [c_RHash, Bs, Ag, ht]
  refine call0 (own_ok b (by omega)) rfl ?_
  rintro y H' ⟨rfl, rfl⟩
  refine ⟨.inl rfl, le_ok rfl, ?_⟩
  simp [R, RO, ht]
  exact ⟨by omega, by omega, fin [80] (by decide) rfl rfl rfl ⟨by simp, by simp⟩⟩
theorem RUint_nil (n : Nat) (h : n < 18446744073709551616) : ECalls Tryz.prog 147 [.v (.c (.fz (.lit (.slice none 0 0)))), I .u64 n] [] fun y H' => H' = [some (RO (uintB n))] ∧ y = R 0 (uintB n) := ecalls_nil (es := 1) (RUint_ok [] n h (by simp))
theorem uB_eq (n : Int) : uintB (u64n n) = uB n := rfl
@[simp] def ylmu : UL | _ => [xQ 0 1 (.box 32 (.t 0)), xQ 1 2 (.mov (.k (.bool false)))]
@[simp] def ylmv : UL | _ => [xQ 6 11 (.bin .add (.t 7) (.t 10)), xM 7 3 11]
@[simp] def ylmw : UL | _ => xQ 0 5 (.fad 3 (.t 1)) :: xQ 1 6 (.ldc (.t 5)) :: xQ 2 7 (.len (.t 6)) :: xQ 3 8 (.fad 4 (.t 1)) :: xQ 4 9 (.ldc (.t 8)) :: xQ 5 10 (.len (.t 9)) :: hid ylmv
@[simp] def ylmx : UL | _ => [xM 0 12 3, xQ 1 13 (.bin .gtr (.t 12) (xK 100))]
@[simp] def ylmy : UL | _ => [xQ 0 2 (.mov (.k (.bool true)))]
@[simp] def ybmz : UB | _ => .seq (reg0 (hid ylmx) 2) (.cond (.t 13) (.seq (reg0 (hid ylmy) 1) .ret) .skip)
@[simp] def yln0 : UL | _ => [xQ 0 4 (.mov (xK 0))]
@[simp] def yln1 : UL | _ => [xM 0 14 4, xQ 1 15 (.fad 4 (.t 1)), xQ 2 16 (.ldc (.t 15)), xQ 3 17 (.len (.t 16)), xQ 4 18 (.bin .lss (.t 14) (.t 17))]
@[simp] def yln2 : UL | _ => [xQ 6 27 (.ldc (.t 26)), xQ 7 28 (.len (.t 27)), xQ 8 29 (.bin .add (.t 21) (.t 28)), xM 9 3 29]
@[simp] def yln3 : UL | _ => xM 0 21 3 :: xQ 1 22 (.fad 4 (.t 1)) :: xQ 2 23 (.ldc (.t 22)) :: xM 3 24 4 :: xQ 4 25 (.isl 3 (.t 23) (.t 24)) :: xQ 5 26 (.fad 2 (.t 25)) :: hid yln2
@[simp] def yln4 : UL | _ => [xM 0 19 4, xQ 1 20 (.bin .add (.t 19) (xK 1)), xM 2 4 20]
@[simp] def ybn5 : UB | _ => .seq (.block 1 (reg0 (hid yln3) 10)) (reg0 (hid yln4) 3)
@[simp] def ybn6 : UB | _ => .seq (.seq (reg0 (hid yln1) 5) (.cond (.t 18) .skip (.exit 0))) (hid ybn5)
@[simp] def ybn7 : UB | _ => .seq (reg0 (hid yln0) 1) (.block 0 (.loop (hid ybn6)))
@[simp] def yln8 : UL | _ => [xM 0 30 3, xQ 1 31 (.bin .gtr (.t 30) (xK 300)), xM 2 2 31]
@[simp] def ybn9 : UB | _ => .seq (hid ybmz) (.seq (hid ybn7) (.seq (reg0 (hid yln8) 3) .ret))
@[simp] def ybna : UB | _ => .seq (reg0 (hid ylmu) 2) (.seq (reg0 (hid ylmw) 8) (hid ybn9))
def c_longState : EB × List QOp × Nat := ((hid ybna), [(.mov (.t 2))], 32)
theorem k_longState : cfun Tryz.prog 11 = some c_longState := by kernel_rfl
def sumK (l : List Hol) : Nat := (l.map (·.keys.length)).sum
theorem sumK_snoc (l : List Hol) (h : Hol) : sumK (l ++ [h]) = sumK l + h.keys.length := by simp [sumK]
theorem sumK_le : ∀ {l : List Hol}, (∀ h ∈ l, h.keys.length ≤ 100000000) → sumK l ≤ 100000000 * l.length
  | [], _ => by simp [sumK]
  | h :: r, q => by
    have h1 := q h (by simp)
    have h2 := sumK_le (l := r) (fun y hy => q y (by simp [hy]))
    simp [sumK] at *; omega
theorem sumK_mem : ∀ {l : List Hol} {h : Hol}, h ∈ l → h.keys.length ≤ sumK l
  | x :: r, h, q => by
    rcases List.mem_cons.1 q with rfl | q
    · simp [sumK]
    · have := sumK_mem q
      simp [sumK] at *; omega
def longS (s : Sta) : Bool := decide (100 < s.pays.length + s.holds.length ∨ 300 < s.pays.length + s.holds.length + sumK s.holds)
theorem longS_small {s : Sta} (h : longS s = false) : s.small ∧ s.pays.length ≤ 100 ∧ s.holds.length ≤ 100 ∧ ∀ h ∈ s.holds, h.keys.length ≤ 300 := by
  have h' := of_decide_eq_false h
  refine ⟨⟨by omega, by omega, fun x hx => ?_⟩, by omega, by omega, fun x hx => ?_⟩ <;>
  · have := sumK_mem hx
    omega
theorem longState_ok (s : Sta) (hs : s.ok) : ECalls Tryz.prog 11 [SV s] [] fun y H' => H' = [] ∧ y = .lit (.bool (longS s)) := by
  obtain ⟨ok1, ok2, ok3, ok4, ok5, ok6, ok7⟩ := id hs
  have w0 : IntKind.i64.wrap ((s.pays.length : Int) + (s.holds.length : Int)) = ((s.pays.length + s.holds.length : Nat) : Int) := by rw [wrap_i64 (by omega) (by omega)]; simp
  refine ecalls k_longState ?_
  simp [c_longState, SV, staC, w0, -Int.natCast_add]
  refine alt (fun hlt => ?_) (fun hlt => ?_)
  · simp
    have : longS s = true := by unfold longS; exact decide_eq_true (.inl (by omega))
    exact fin [] (by decide) rfl rfl rfl ⟨rfl, by simp [this]⟩
  simp [-Int.natCast_add]
  refine eloop (α := Nat) (fun i => i ≤ s.holds.length) (fun i => s.holds.length - i)
    (fun i => [xA, Ptr 0, xA, I .i64 ((s.pays.length + s.holds.length + sumK (s.holds.take i) : Nat) : Int), I .i64 i, xA, xA, xA, xA, xA, xA, xA, xA, xA, xA, xA, xA, xA, xA, xA, xA, xA, xA, xA, xA, xA, xA, xA, xA, xA, xA, .any]) (fun i => [some (.box 32 (staC s))]) 0 [0]
    (Nat.zero_le _) (by simp [Ptr, I, sumK]) (by simp [staC]) (by simp) (by simp) (by simp) ?_
  intro i hi
  have hlk := sumK_le (l := s.holds.take i) (fun h hh => (ok5 h (List.mem_of_mem_take hh)).2.2.2)
  have hlt' : (s.holds.take i).length = i := by simp; omega
  simp [Ptr, I, staC, -Int.natCast_add]
  refine alt (fun hlt => ?_) (fun hlt => ?_)
  · obtain ⟨p, hc⟩ : ∃ p, s.holds[i]? = some p := ⟨s.holds[i], by simp [hlt]⟩
    have hcb := holv_get hc
    have hk := (ok5 p (List.mem_of_getElem? hc)).2.2.2
    have hts : sumK (s.holds.take (i + 1)) = sumK (s.holds.take i) + p.keys.length := by rw [take_s hc, sumK_snoc]
    have w2 := wS (i := i) (by omega)
    have w3 : IntKind.i64.wrap (((s.pays.length + s.holds.length + sumK (s.holds.take i) : Nat) : Int) + (p.keys.length : Int)) = ((s.pays.length + s.holds.length + sumK (s.holds.take (i + 1)) : Nat) : Int) := by
      rw [wrap_i64 (by omega) (by omega), hts]; simp; omega
    simp [hcb, holF, w2, w3, -Int.natCast_add]
    exact round (i + 1) [0] (by omega) (by omega) (by simp) (by simp) (by simp) (by simp) (by simp)
  have hil : i = s.holds.length := by omega
  subst hil
  rw [List.take_length] at *
  simp [-Int.natCast_add]
  exact fin [] (by decide) rfl rfl rfl ⟨rfl, by
    have : longS s = decide (300 < ((s.pays.length + s.holds.length + sumK s.holds : Nat) : Int)) := decide_eq_decide.2 (by omega)
    simp [this]⟩
@[simp] def ylnb : UL | _ => [xQ 0 1 (.box 32 (.t 0)), xQ 1 2 (.alloc 47 [xZ, xZ, xZ, xS, xS])]
@[simp] def ylnc : UL | _ => [xN 6 (.fz (.sto 5 (.t 3) (.t 11)))]
@[simp] def ylnd : UL | _ => xQ 0 7 (.fad 0 (.t 1)) :: xQ 1 8 (.ldc (.t 7)) :: xQ 2 9 (.fad 1 (.t 1)) :: xQ 3 10 (.lda 2 (.t 9)) :: xQ 4 11 (.build [xZ, xZ, xZ, xS, xS] [(0, 1, (.t 8)), (1, 2, (.t 10))]) :: xQ 5 3 (.alloc 47 [xZ, xZ, xZ, xS, xS]) :: hid ylnc
@[simp] def ylne : UL | _ => [xQ 0 4 (.mov (xK 0))]
@[simp] def ylnf : UL | _ => [xM 0 12 4, xQ 1 13 (.fad 3 (.t 1)), xQ 2 14 (.ldc (.t 13)), xQ 3 15 (.len (.t 14)), xQ 4 16 (.bin .lss (.t 12) (.t 15))]
@[simp] def ylng : UL | _ => [xQ 6 25 (.lda 36 (.t 24)), xQ 7 26 (.bsl 36 (([xZ, xZ, xZ, xZ] : List Value) ++ zU8) 1 [(0, (.t 25))]), xO 8 27 (.app 126 36 64 (.t 20) (.t 26)), xQ 9 28 (.fad 3 (.t 3)), xN 10 (.fz (.sto 1 (.t 28) (.t 27)))]
@[simp] def ylnh : UL | _ => xQ 0 19 (.fad 3 (.t 3)) :: xQ 1 20 (.ldc (.t 19)) :: xQ 2 21 (.fad 3 (.t 1)) :: xQ 3 22 (.ldc (.t 21)) :: xM 4 23 4 :: xQ 5 24 (.isl 36 (.t 22) (.t 23)) :: hid ylng
@[simp] def ylni : UL | _ => [xM 0 17 4, xQ 1 18 (.bin .add (.t 17) (xK 1)), xM 2 4 18]
@[simp] def ybnj : UB | _ => .seq (.block 1 (reg0 (hid ylnh) 11)) (reg0 (hid ylni) 3)
@[simp] def ybnk : UB | _ => .seq (.seq (reg0 (hid ylnf) 5) (.cond (.t 16) .skip (.exit 0))) (hid ybnj)
@[simp] def ybnl : UB | _ => .seq (reg0 (hid ylne) 1) (.block 0 (.loop (hid ybnk)))
@[simp] def ylnm : UL | _ => [xQ 0 5 (.mov (xK 0))]
@[simp] def ylnn : UL | _ => [xM 0 29 5, xQ 1 30 (.fad 4 (.t 1)), xQ 2 31 (.ldc (.t 30)), xQ 3 32 (.len (.t 31)), xQ 4 33 (.bin .lss (.t 29) (.t 32))]
@[simp] def ylno : UL | _ => [xQ 0 6 (.mov (.k xS))]
@[simp] def ylnp : UL | _ => [xO 24 60 (.app 128 3 40 (.t 37) (.t 59)), xQ 25 61 (.fad 4 (.t 3)), xN 26 (.fz (.sto 1 (.t 61) (.t 60)))]
@[simp] def ylnq : UL | _ => xQ 18 54 (.isl 3 (.t 52) (.t 53)) :: xQ 19 55 (.fad 2 (.t 54)) :: xQ 20 56 (.ldc (.t 55)) :: ⟨21, (some 57), none, (.app 3 1 8 (.t 50) (.t 56)), [0, 1, 2, 3, 4, 5, 6, 7, 8, 9, 10, 11, 12, 13]⟩ :: xQ 22 58 (.build [xZ, xZ, xS] [(0, 1, (.t 43)), (1, 1, (.t 49)), (2, 1, (.t 57))]) :: ⟨23, (some 59), none, (.fz (.q (.bsl 3 [xZ, xZ, xS] 1 [(0, (.t 58))]))), [0, 1]⟩ :: hid ylnp
@[simp] def ylnr : UL | _ => xQ 12 48 (.fad 1 (.t 47)) :: xQ 13 49 (.ldc (.t 48)) :: xM 14 50 6 :: xQ 15 51 (.fad 4 (.t 1)) :: xQ 16 52 (.ldc (.t 51)) :: xM 17 53 5 :: hid ylnq
@[simp] def ylns : UL | _ => xQ 6 42 (.fad 0 (.t 41)) :: xQ 7 43 (.ldc (.t 42)) :: xQ 8 44 (.fad 4 (.t 1)) :: xQ 9 45 (.ldc (.t 44)) :: xM 10 46 5 :: xQ 11 47 (.isl 3 (.t 45) (.t 46)) :: hid ylnr
@[simp] def ylnt : UL | _ => xQ 0 36 (.fad 4 (.t 3)) :: xQ 1 37 (.ldc (.t 36)) :: xQ 2 38 (.fad 4 (.t 1)) :: xQ 3 39 (.ldc (.t 38)) :: xM 4 40 5 :: xQ 5 41 (.isl 3 (.t 39) (.t 40)) :: hid ylns
@[simp] def ybnu : UB | _ => .block 3 (.seq (reg0 (hid ylno) 1) (reg1 (hid ylnt) 27))
@[simp] def ylnv : UL | _ => [xM 0 34 5, xQ 1 35 (.bin .add (.t 34) (xK 1)), xM 2 5 35]
@[simp] def ybnw : UB | _ => .seq (.seq (reg0 (hid ylnn) 5) (.cond (.t 33) .skip (.exit 2))) (.seq (hid ybnu) (reg0 (hid ylnv) 3))
@[simp] def ybnx : UB | _ => .seq (reg0 (hid ylnm) 1) (.block 2 (.loop (hid ybnw)))
@[simp] def ylny : UL | _ => [xQ 0 62 (.lda 5 (.t 3)), xN 1 (.fz (.sto 5 (.t 2) (.t 62)))]
@[simp] def ybnz : UB | _ => .seq (hid ybnl) (.seq (hid ybnx) (.seq (reg0 (hid ylny) 2) .ret))
@[simp] def ybo0 : UB | _ => .seq (reg0 (hid ylnb) 2) (.seq (reg0 (hid ylnd) 7) (hid ybnz))
def c_giveState : EB × List QOp × Nat := ((hid ybo0), [(.lda 5 (.t 2))], 63)
theorem k_giveState : cfun Tryz.prog 15 = some c_giveState := by kernel_rfl
def zC : List EC := [.fz (.lit (.int .i64 0)), .fz (.lit (.int .i64 0)), .fz (.lit (.int .i64 0)), .fz (.lit (.slice none 0 0)), .fz (.lit (.slice none 0 0))]
def gC (s : Sta) (a b : EC) : List EC := [.fz (.lit (.int .i64 s.num)), .fz (.lit (.int .i64 s.h0)), .fz (.lit (.int .i64 s.h1)), a, b]
theorem giveState_ok (s : Sta) (hs : s.ok) (hm : s.small) : ECalls Tryz.prog 15 [SV s] [] fun y H' => H' = [] ∧ y = SV s := by
  obtain ⟨ok1, ok2, ok3, ok4, ok5, ok6, ok7⟩ := id hs
  obtain ⟨m1, m2, m3⟩ := hm
  refine ecalls k_giveState ?_
  simp [c_giveState, SV, staC]
  refine loopW _ (weak_nil (o := 112) (k := 3) (ty := 126) (es := 36) rfl rfl (by omega)) ?_
  refine loopW _ (weak_nil (o := 112) (k := 4) (ty := 128) (es := 3) rfl rfl (by omega)) ?_
  refine eloop (α := Nat) (fun i => i ≤ s.pays.length) (fun i => s.pays.length - i)
    (fun i => [xA, Ptr 0, Ptr 1, Ptr 2, I .i64 i, xA, xA, xA, xA, xA, xA, xA, xA, xA, xA, xA, xA, xA, xA, xA, xA, xA, xA, xA, xA, xA, xA, xA, xA, xA, xA, xA, xA, xA, xA, xA, xA, xA, xA, xA, xA, xA, xA, xA, xA, xA, xA, xA, xA, xA, xA, xA, xA, xA, xA, xA, xA, xA, xA, xA, xA, xA, .any]) (fun i => [some (.box 32 (staC s)), some (.box 47 zC), some (.box 47 (gC s (.row 3 i) (.row 4 0))), some (.row 126 36 (payv (s.pays.take i))), some (.row 128 3 [])]) 0 [0, 16, 112, 160, 161]
    (Nat.zero_le _) (by simp [Ptr, I]) (by simp [zC, gC, staC, payv]) (by simp) (by simp) (by simp) ?_
  intro i hi
  simp [Ptr, I, staC, zC, gC]
  refine alt (fun hlt => ?_) (fun hlt => ?_)
  · obtain ⟨p, hc⟩ : ∃ p, s.pays[i]? = some p := ⟨s.pays[i], by simp [hlt]⟩
    have hpo := ok4 p (List.mem_of_getElem? hc)
    have hl32 := hpo.2.2.2.2
    have ht : p.lock.take 32 = p.lock := List.take_of_length_le (by omega)
    have hcb := payv_get hc
    have w2 := wS (i := i) (by omega)
    have e2 : payv (s.pays.take (i + 1)) = payv (s.pays.take i) ++ [payF p] := by rw [take_s hc]; simp [payv]
    have hm0 : min i s.pays.length = i := by omega
    simp [hcb, payF, hl32, ht, w2, hm0, -Int.natCast_add]
    refine ⟨by omega, ?_⟩
    exact round (i + 1) [0, 1, 2, 213, 4] (by omega) (by omega) (by simp) (by simp [e2, payF]) (by simp) (by simp) (by simp)
  have hil : i = s.pays.length := by omega
  subst hil
  rw [List.take_length]
  simp
  refine eloop (α := Nat) (fun i => i ≤ s.holds.length) (fun i => s.holds.length - i)
    (fun i => [xA, Ptr 0, Ptr 1, Ptr 2, xA, I .i64 i, xA, xA, xA, xA, xA, xA, xA, xA, xA, xA, xA, xA, xA, xA, xA, xA, xA, xA, xA, xA, xA, xA, xA, xA, xA, xA, xA, xA, xA, xA, xA, xA, xA, xA, xA, xA, xA, xA, xA, xA, xA, xA, xA, xA, xA, xA, xA, xA, xA, xA, xA, xA, xA, xA, xA, xA, .any]) (fun i => [some (.box 32 (staC s)), some (.box 47 zC), some (.box 47 (gC s (.row 3 s.pays.length) (.row 4 i))), some (.row 126 36 (payv s.pays)), some (.row 128 3 (holv (s.holds.take i)))]) 0 [0, 1, 2, 3, 4]
    (Nat.zero_le _) (by simp [Ptr, I]) (by simp [zC, gC, staC, holv]) (by simp) (by simp) (by simp) ?_
  intro i hi
  simp [Ptr, I, staC, zC, gC]
  refine alt (fun hlt => ?_) (fun hlt => ?_)
  · obtain ⟨p, hc⟩ : ∃ p, s.holds[i]? = some p := ⟨s.holds[i], by simp [hlt]⟩
    have hk := m3 p (List.mem_of_getElem? hc)
    have hcb := holv_get hc
    have w2 := wS (i := i) (by omega)
    have e2 : holv (s.holds.take (i + 1)) = holv (s.holds.take i) ++ [holF p] := by rw [take_s hc]; simp [holv]
    have hm0 : min i s.holds.length = i := by omega
    simp [hcb, holF, w2, hm0, -Int.natCast_add]
    refine ⟨⟨by omega, by omega⟩, ⟨by omega, by omega⟩, ?_⟩
    exact round (i + 1) [0, 1, 2, 3, 485] (by omega) (by omega) (by simp) (by simp [e2, holF, List.take_of_length_le]) (by simp) (by simp) (by simp)
  have hil : i = s.holds.length := by omega
  subst hil
  rw [List.take_length]
  simp
  refine finW _ (weak_frz (o := 3) (ty := 126) (es := 36) (xs := payv s.pays) rfl) ?_
  refine finW _ (weak_frz (o := 4) (ty := 128) (es := 3) (xs := holv s.holds) rfl) ?_
  exact fin [] (by decide) rfl rfl rfl ⟨rfl, by simp [List.take_of_length_le]⟩
@[simp] def ylo1 : UL | _ => [xQ 0 3 (.box 28 (.t 0)), xQ 1 4 (.box 32 (.t 1)), xQ 2 6 (.mov (.k xS)), xQ 3 7 (.mov (xK 0))]
@[simp] def ylo2 : UL | _ => [xQ 0 11 (.lda 38 (.t 3)), xQ 1 12 (.lda 5 (.t 4)), xO 2 13 (.call 21 [(.t 11), (.t 12)]), xM 3 8 13]
@[simp] def ylo3 : UL | _ => [xM 0 14 8, xQ 1 15 (.bin .neq (.t 14) (xK 0))]
@[simp] def ylo4 : UL | _ => [xM 0 16 8, xQ 1 6 (.mov (.k xS)), xM 2 7 16]
@[simp] def ybo5 : UB | _ => .seq (reg0 (hid ylo3) 2) (.cond (.t 15) (.seq (reg0 (hid ylo4) 3) .ret) .skip)
@[simp] def ylo6 : UL | _ => [xM 0 17 2, xQ 1 18 (.bin .lss (.t 17) (xK 0)), xM 2 19 18, xG 3 20 19 false (.mov (.t 2)), xG 4 21 19 false (.bin .gtr (.t 20) (xK 1)), xQ 5 22 (.pick (.t 19) (.k (.bool true)) (.t 21))]
@[simp] def ylo7 : UL | _ => [xQ 0 6 (.mov (.k xS)), xQ 1 7 (.mov (xK 1))]
@[simp] def ybo8 : UB | _ => .seq (reg0 (hid ylo6) 6) (.cond (.t 22) (.seq (reg0 (hid ylo7) 2) .ret) .skip)
@[simp] def ylo9 : UL | _ => [xQ 6 29 (.ext 0 (.t 23)), xQ 7 30 (.ext 1 (.t 23)), xM 8 9 29, xM 9 10 30]
@[simp] def yloa : UL | _ => xQ 0 24 (.lda 38 (.t 3)) :: xQ 1 25 (.lda 5 (.t 4)) :: xM 2 26 2 :: xQ 3 27 (.build zU8 []) :: xO 4 28 (.call 45 [(.t 24), (.t 25), (.t 26), (.t 27)]) :: xM 5 23 28 :: hid ylo9
@[simp] def ylob : UL | _ => [xM 0 31 10, xM 1 6 31, xQ 2 7 (.mov (xK 0))]
@[simp] def yboc : UB | _ => .seq (reg0 (hid yloa) 10) (.seq (reg0 (hid ylob) 3) .ret)
@[simp] def ybod : UB | _ => .seq (reg0 (hid ylo2) 4) (.seq (hid ybo5) (.seq (hid ybo8) (hid yboc)))
@[simp] def yboe : UB | _ => .seq (reg0 (hid ylo1) 4) (hid ybod)
def c_RPlaces : EB × List QOp × Nat := ((hid yboe), [(.mov (.t 6)), (.mov (.t 7))], 32)
theorem k_RPlaces : cfun Tryz.prog 16 = some c_RPlaces := by kernel_rfl
@[simp] def ylof : UL | _ => [xQ 0 1 (.box 69 (.t 0)), xQ 1 2 (.alloc 69 [xZ, xS, xS]), xQ 2 3 (.mov (xK 0))]
@[simp] def ylog : UL | _ => [xQ 0 5 (.lda 3 (.t 1)), xO 1 6 (.call 93 [(.t 5)]), xM 2 4 6]
@[simp] def yloh : UL | _ => [xM 0 7 4, xQ 1 8 (.bin .neq (.t 7) (xK 0))]
@[simp] def yloi : UL | _ => [xQ 0 9 (.build [xZ, xS, xS] []), xM 1 10 4, xN 2 (.fz (.sto 3 (.t 2) (.t 9))), xM 3 3 10]
@[simp] def yboj : UB | _ => .seq (reg0 (hid yloh) 2) (.cond (.t 8) (.seq (reg0 (hid yloi) 4) .ret) .skip)
@[simp] def ylok : UL | _ => [xQ 0 11 (.lda 3 (.t 1)), xN 1 (.fz (.sto 3 (.t 2) (.t 11))), xQ 2 3 (.mov (xK 0))]
@[simp] def ybol : UB | _ => .seq (reg0 (hid ylog) 3) (.seq (hid yboj) (.seq (reg0 (hid ylok) 3) .ret))
@[simp] def ybom : UB | _ => .seq (reg0 (hid ylof) 3) (hid ybol)
def c_RDone : EB × List QOp × Nat := ((hid ybom), [(.lda 3 (.t 2)), (.mov (.t 3))], 12)
theorem k_RDone : cfun Tryz.prog 48 = some c_RDone := by kernel_rfl
@[simp] def ylon : UL | _ => [xQ 0 4 (.box 28 (.t 0)), xQ 1 5 (.box 32 (.t 1)), xQ 2 7 (.box 23 (.t 3)), xQ 3 8 (.alloc 69 [xZ, xS, xS]), xQ 4 9 (.mov (xK 0))]
@[simp] def yloo : UL | _ => [xQ 0 13 (.lda 38 (.t 4)), xQ 1 14 (.lda 5 (.t 5)), xO 2 15 (.call 21 [(.t 13), (.t 14)]), xM 3 10 15]
@[simp] def ylop : UL | _ => [xM 0 16 10, xQ 1 17 (.bin .neq (.t 16) (xK 0))]
@[simp] def yloq : UL | _ => [xQ 0 18 (.build [xZ, xS, xS] []), xM 1 19 10, xN 2 (.fz (.sto 3 (.t 8) (.t 18))), xM 3 9 19]
@[simp] def ybor : UB | _ => .seq (reg0 (hid ylop) 2) (.cond (.t 17) (.seq (reg0 (hid yloq) 4) .ret) .skip)
@[simp] def ylos : UL | _ => [xM 6 26 25, xG 7 27 26 false (.lda 32 (.t 7)), xG 8 28 26 false (.build zU8 []), xG 9 29 26 false (.eqa false 32 .u8 (.t 27) (.t 28)), xQ 10 30 (.pick (.t 26) (.k (.bool true)) (.t 29))]
@[simp] def ylot : UL | _ => xM 0 20 2 :: xQ 1 21 (.bin .lss (.t 20) (xK 0)) :: xM 2 22 21 :: xG 3 23 22 false (.mov (.t 2)) :: xG 4 24 22 false (.bin .gtr (.t 23) (xK 1)) :: xQ 5 25 (.pick (.t 22) (.k (.bool true)) (.t 24)) :: hid ylos
@[simp] def ylou : UL | _ => [xQ 0 31 (.build [xZ, xS, xS] []), xN 1 (.fz (.sto 3 (.t 8) (.t 31))), xQ 2 9 (.mov (xK 1))]
@[simp] def ybov : UB | _ => .seq (reg0 (hid ylot) 11) (.cond (.t 30) (.seq (reg0 (hid ylou) 3) .ret) .skip)
@[simp] def ylow : UL | _ => [xQ 6 38 (.ext 0 (.t 32)), xQ 7 39 (.ext 1 (.t 32)), xM 8 11 38, xM 9 12 39]
@[simp] def ylox : UL | _ => xQ 0 33 (.lda 38 (.t 4)) :: xQ 1 34 (.lda 5 (.t 5)) :: xM 2 35 2 :: xQ 3 36 (.lda 32 (.t 7)) :: xO 4 37 (.call 45 [(.t 33), (.t 34), (.t 35), (.t 36)]) :: xM 5 32 37 :: hid ylow
@[simp] def yloy : UL | _ => [xO 6 46 (.call 48 [(.t 45)]), xQ 7 47 (.ext 0 (.t 46)), xQ 8 48 (.ext 1 (.t 46)), xN 9 (.fz (.sto 3 (.t 8) (.t 47))), xM 10 9 48]
@[simp] def yloz : UL | _ => xQ 0 40 (.fad 0 (.t 4)) :: xQ 1 41 (.lda 33 (.t 40)) :: xQ 2 42 (.build (zU8 ++ [xZ, xZ, xS]) [(0, 33, (.t 41))]) :: xO 3 43 (.fz (.q (.bsl 35 (zU8 ++ [xZ, xZ, xS]) 1 [(0, (.t 42))]))) :: xM 4 44 11 :: xQ 5 45 (.build [xZ, xS, xS] [(1, 1, (.t 43)), (2, 1, (.t 44))]) :: hid yloy
@[simp] def ybp0 : UB | _ => .seq (reg0 (hid ylox) 10) (.seq (reg0 (hid yloz) 11) .ret)
@[simp] def ybp1 : UB | _ => .seq (reg0 (hid yloo) 4) (.seq (hid ybor) (.seq (hid ybov) (hid ybp0)))
@[simp] def ybp2 : UB | _ => .seq (reg0 (hid ylon) 5) (hid ybp1)
def c_RCommit : EB × List QOp × Nat := ((hid ybp2), [(.lda 3 (.t 8)), (.mov (.t 9))], 49)
theorem k_RCommit : cfun Tryz.prog 19 = some c_RCommit := by kernel_rfl
@[simp] def ylp3 : UL | _ => [xQ 0 0 (.mov (.k (.bool false)))]
@[simp] def ylp4 : UL | _ => [xQ 0 4 (.build [xZ, xZ] [(0, 1, (xK 1)), (1, 1, (xK 2))]), xQ 1 5 (.build (zU8 ++ [xZ, xZ, xZ, xZ, xZ, xZ]) [(33, 1, (xK 100)), (34, 2, (.t 4)), (36, 1, (xK 3)), (37, 1, (xK 5))]), xQ 2 1 (.alloc 42 (zU8 ++ [xZ, xZ, xZ, xZ, xZ, xZ])), xN 3 (.sto 38 (.t 1) (.t 5))]
@[simp] def ylp5 : UL | _ => [xQ 6 12 (.ext 0 (.t 6)), xQ 7 13 (.ext 1 (.t 6)), xQ 8 2 (.alloc 63 [xZ, xS, xS]), xN 9 (.fz (.sto 3 (.t 2) (.t 12))), xM 10 3 13]
@[simp] def ylp6 : UL | _ => xQ 0 7 (.lda 38 (.t 1)) :: xQ 1 8 (.build [xZ, xZ] [(0, 1, (xK 50)), (1, 1, (xK 50))]) :: xQ 2 9 (.build [xZ, xZ, xZ, xS, xS] [(1, 2, (.t 8))]) :: xQ 3 10 (.build zU8 [(0, 1, (.k (.int .u8 1)))]) :: xO 4 11 (.call 18 [(.t 7), (.t 9), (xK 1), (.t 10)]) :: xM 5 6 11 :: hid ylp5
@[simp] def ylp7 : UL | _ => [xM 24 0 37]
@[simp] def ylp8 : UL | _ => xG 18 32 30 true (.ldc (.t 31)) :: xG 19 33 30 true (.isl 2 (.t 32) (xK 1)) :: xG 20 34 30 true (.fad 0 (.t 33)) :: xG 21 35 30 true (.ldc (.t 34)) :: xG 22 36 30 true (.bin .eql (.t 35) (xK 45)) :: xQ 23 37 (.pick (.t 30) (.t 36) (.k (.bool false))) :: hid ylp7
@[simp] def ylp9 : UL | _ => xG 12 26 22 true (.fad 0 (.t 25)) :: xG 13 27 22 true (.ldc (.t 26)) :: xG 14 28 22 true (.bin .eql (.t 27) (xK 50)) :: xQ 15 29 (.pick (.t 22) (.t 28) (.k (.bool false))) :: xM 16 30 29 :: xG 17 31 30 true (.fad 2 (.t 2)) :: hid ylp8
@[simp] def ylpa : UL | _ => xG 6 20 16 true (.bin .eql (.t 19) (xK 2)) :: xQ 7 21 (.pick (.t 16) (.t 20) (.k (.bool false))) :: xM 8 22 21 :: xG 9 23 22 true (.fad 2 (.t 2)) :: xG 10 24 22 true (.ldc (.t 23)) :: xG 11 25 22 true (.isl 2 (.t 24) (xK 0)) :: hid ylp9
@[simp] def ylpb : UL | _ => xM 0 14 3 :: xQ 1 15 (.eqi false (.t 14)) :: xM 2 16 15 :: xG 3 17 16 true (.fad 2 (.t 2)) :: xG 4 18 16 true (.ldc (.t 17)) :: xG 5 19 16 true (.len (.t 18)) :: hid ylpa
@[simp] def ybpc : UB | _ => .seq (reg0 (hid ylp4) 4) (.seq (reg0 (hid ylp6) 11) (.seq (reg0 (hid ylpb) 25) .ret))
@[simp] def ybpd : UB | _ => .seq (reg0 (hid ylp3) 1) (hid ybpc)
def c_sure : EB × List QOp × Nat := ((hid ybpd), [(.mov (.t 0))], 38)
theorem k_sure : cfun Tryz.prog 12 = some c_sure := by kernel_rfl
theorem num_e (e : Nat) : ECalls Tryz.prog 17 [.lit (errV e)] [] fun y H' => H' = [] ∧ y = I .i64 e := by
  have h := num_ok (e : Int)
  have e1 : EN (e : Int) = .lit (errV e) := by
    unfold EN errV
    by_cases h : e = 0
    · subst h; rfl
    · rw [if_neg (by omega), if_neg h]
  rw [e1] at h
  exact h
theorem RDone_ok (t : Txn) (ht : t.ok) : ECalls Tryz.prog 48 [TXv t] [] fun y H' => H' = [] ∧ y = .tup [.agg (txC (donT t).1), .c (.fz (.lit (.int .i64 (donT t).2)))] := by
  have h1 := RTxCheck_ok t ht
  refine ecalls k_RDone ?_
  simp [c_RDone, TXv, txC, iC]
  refine call0 h1 (by simp [TXv, txC, iC]) ?_
  rintro y H' ⟨rfl, rfl⟩
  refine ⟨.inl (by simp [I]), le_ok rfl, ?_⟩
  by_cases c : chkT t = 0
  · rw [show donT t = (t, 0) from if_neg (by simpa using c)]
    simp [c, I]
    exact fin0
  · rw [show donT t = (zTx, chkT t) from if_pos c]
    simp [c, I]
    refine finW _ (weak_nlB (o := 16) (k := 1) 35 rfl rfl) (finW _ (weak_nlB (o := 16) (k := 2) 2 rfl rfl) ?_)
    exact fin0
theorem ROuts_ok (p : Prm) (s : Sta) (o : Int) (lock : List UInt8) (ho : o = 0 ∨ o = 1) (hp : p.ok) (hl : lock.length = 32) (hs : s.ok) (hw : i64 (s.h0 - p.fe)) (hn : s.pays.length ≤ 8 ∧ s.holds.length ≤ 8) (hpay : ∀ x ∈ s.pays, 10 ≤ x.am ∧ (x.fr = 0 ∨ x.fr = 1)) (hhol : ∀ h ∈ s.holds, KeysOK h.keys) :
    ECalls Tryz.prog 45 [PVv p, SV s, I .i64 o, .v (.agg (hc lock))] [] fun y H' => H' = [] ∧ y = .tup [.c (.fz (.sl 2 (outv (outsB p s o lock)))), .c (.fz (.sl 2 (plcv (plcB p s o))))] := by
  rcases ho with rfl | rfl
  · exact ROuts_0 p s lock hp hl hs hw hn hpay hhol
  · exact ROuts_1 p s lock hp hl hs hw hn hpay hhol
theorem RPlaces_ok (p : Prm) (s : Sta) (o : Int) (hp : p.ok) (hs : s.ok) : ECalls Tryz.prog 16 [PVv p, SV s, I .i64 o] [] fun y H' => H' = [] ∧ y = .tup [.c (.fz (.sl 2 (plcv (plcS p s o).1))), .c (.fz (.lit (.int .i64 (plcS p s o).2)))] := by
  have h1 := hp.1
  have lp := prmC_len h1
  have tp := pm_take h1
  refine ecalls k_RPlaces ?_
  simp [c_RPlaces, PVv, SV, staC, I, lp, tp]
  refine call0 (RBCheck_ok p s hp hs) (by simp [PVv, SV, staC]) ?_
  rintro y H' ⟨rfl, rfl⟩
  refine ⟨.inl (by simp [I]), le_ok rfl, ?_⟩
  by_cases c : bldE p s = 0
  rotate_left
  · rw [show plcS p s o = ([], bldE p s) from if_pos c]
    simp [c, I]
    refine finW _ (weak_nilF 6 2 rfl) ?_
    exact fin0
  simp [c, I]
  by_cases c2 : o = 0 ∨ o = 1
  rotate_left
  · rw [show plcS p s o = ([], 1) by unfold plcS; rw [if_neg (by simpa using c), if_pos c2]]
    by_cases c3 : o < 0
    · have c4 : ¬ 0 ≤ o := by omega
      simp [c3, c4]
      refine finW _ (weak_nilF 6 2 rfl) ?_
      exact fin0
    · have c4 : 1 < o := by omega
      have c5 : 0 ≤ o := by omega
      have c6 : ¬ o ≤ 1 := by omega
      simp [c3, c4, c5, c6]
      refine finW _ (weak_nilF 6 2 rfl) ?_
      exact fin0
  rw [show plcS p s o = (plcB p s o, 0) by unfold plcS; rw [if_neg (by simpa using c), if_neg (fun q => q c2)]]
  obtain ⟨k1, k2, k3, k4⟩ := outs_cond c
  have c3 : ¬ o < 0 := by omega
  have c4 : ¬ 1 < o := by omega
  have c5 : 0 ≤ o := by omega
  have c6 : o ≤ 1 := by omega
  simp [c3, c4, c5, c6, PVv, SV, staC, I, lp, tp]
  refine call0 (ROuts_ok p s o hz c2 hp hz_len hs k1 k2 k3 k4) (by simp [PVv, SV, staC, I]) ?_
  rintro y H' ⟨rfl, rfl⟩
  refine ⟨.inl (by simp), le_ok rfl, ?_⟩
  simp
  exact fin0
theorem RCommit_ok (p : Prm) (s : Sta) (o : Int) (lock : List UInt8) (hp : p.ok) (hs : s.ok) (hl : lock.length = 32) : ECalls Tryz.prog 19 [PVv p, SV s, I .i64 o, .v (.agg (hc lock))] [] fun y H' => H' = [] ∧ y = .tup [.agg (txC (cmtS p s o lock).1), .c (.fz (.lit (.int .i64 (cmtS p s o lock).2)))] := by
  have h1 := hp.1
  have lp := prmC_len h1
  have tp := pm_take h1
  refine ecalls k_RCommit ?_
  simp [c_RCommit, PVv, SV, staC, I, lp, tp]
  refine call0 (RBCheck_ok p s hp hs) (by simp [PVv, SV, staC]) ?_
  rintro y H' ⟨rfl, rfl⟩
  refine ⟨.inl (by simp [I]), le_ok rfl, ?_⟩
  by_cases c : bldE p s = 0
  rotate_left
  · rw [show cmtS p s o lock = (zTx, bldE p s) from if_pos c]
    simp [c, I]
    refine finW _ (weak_nlB (o := 48) (k := 1) 35 rfl rfl) (finW _ (weak_nlB (o := 48) (k := 2) 2 rfl rfl) ?_)
    exact fin0
  simp [c, I]
  by_cases c2 : o = 0 ∨ o = 1
  rotate_left
  · rw [show cmtS p s o lock = (zTx, 1) by unfold cmtS; rw [if_neg (by simpa using c), if_pos (.inl c2)]]
    by_cases c3 : o < 0
    · have c4 : ¬ 0 ≤ o := by omega
      simp [c3, c4]
      refine finW _ (weak_nlB (o := 48) (k := 1) 35 rfl rfl) (finW _ (weak_nlB (o := 48) (k := 2) 2 rfl rfl) ?_)
      exact fin0
    · have c4 : 1 < o := by omega
      have c5 : 0 ≤ o := by omega
      have c6 : ¬ o ≤ 1 := by omega
      simp [c3, c4, c5, c6]
      refine finW _ (weak_nlB (o := 48) (k := 1) 35 rfl rfl) (finW _ (weak_nlB (o := 48) (k := 2) 2 rfl rfl) ?_)
      exact fin0
  obtain ⟨k1, k2, k3, k4⟩ := outs_cond c
  have c3 : ¬ o < 0 := by omega
  have c4 : ¬ 1 < o := by omega
  have c5 : 0 ≤ o := by omega
  have c6 : o ≤ 1 := by omega
  simp [c3, c4, c5, c6, PVv, SV, staC, I, lp, tp, hl, hc_t32 hl]
  refine alt (fun c3 => ?_) (fun c3 => ?_)
  · rw [show cmtS p s o lock = (zTx, 1) by unfold cmtS; rw [if_neg (by simpa using c), if_pos (.inr c3)]]
    simp
    refine finW _ (weak_nlB (o := 48) (k := 1) 35 rfl rfl) (finW _ (weak_nlB (o := 48) (k := 2) 2 rfl rfl) ?_)
    exact fin0
  rw [show cmtS p s o lock = donT (cmtT p s o lock) by unfold cmtS; rw [if_neg (by simpa using c), if_neg (by rintro (q | q); exact q c2; exact c3 q)]]
  simp [lp, hz_len, hl, tp, hc_t32 hl]
  refine call0 (ROuts_ok p s o lock c2 hp hl hs k1 k2 k3 k4) (by simp [PVv, SV, staC, I]) ?_
  rintro y H' ⟨rfl, rfl⟩
  refine ⟨.inl (by simp), le_ok rfl, ?_⟩
  have t33 := pm_33 h1
  have hD := RDone_ok (cmtT p s o lock) (cmtT_ok hp hs hl c)
  have hD' : ECalls Tryz.prog 48 [.v (.agg [iC 0, .fz (.sl 35 [(hf p.tx ++ [iF p.n, iF 0]) ++ [.lit (.slice none 0 0)]]), .fz (.sl 2 (outv (outsB p s o lock)))])] [] _ := ecalls_nlI (by rw [List.append_assoc]; exact hD)
  simp [lp, t33, iC, drop33i, h1, frzAll_hc]
  refine call0 hD' (by simp [iC, iF]) ?_
  rintro y H' ⟨rfl, rfl⟩
  refine ⟨.inl (by simp [txC, iC]), le_ok rfl, ?_⟩
  simp [txC, iC]
  exact fin0
theorem VV_nl {X : Cx} {e1 e2 : Nat} {a b c : EC} {u : Value} (h : VV X (.v (.agg [a, b, c, .fz (.lit (.slice none 0 0)), .fz (.lit (.slice none 0 0))])) u) : VV X (.v (.agg [a, b, c, .fz (.sl e1 []), .fz (.sl e2 [])])) u := by
  obtain ⟨vs, rfl, hv⟩ := h
  refine ⟨vs, rfl, by simpa using hv.1, ?_⟩
  intro i x y hx hy
  rcases i with _ | _ | _ | _ | _ | i
  · exact hv.2 0 x y hx hy
  · exact hv.2 1 x y hx hy
  · exact hv.2 2 x y hx hy
  · have := hv.2 3 _ y rfl hy
    simp at hx; subst hx
    exact nl_vr this
  · have := hv.2 4 _ y rfl hy
    simp at hx; subst hx
    exact nl_vr this
  · simp at hx
theorem ecalls_nl2 {P : Program} {f : FuncId} {e1 e2 : Nat} {a b c : EC} {x : EV} {r : List EV} {H : List EO} {post : EV → List (Option EO) → Prop} (h : ECalls P f (x :: .v (.agg [a, b, c, .fz (.sl e1 []), .fz (.sl e2 [])]) :: r) H post) :
    ECalls P f (x :: .v (.agg [a, b, c, .fz (.lit (.slice none 0 0)), .fz (.lit (.slice none 0 0))]) :: r) H post := by
  intro ρ Φ w vals r ha
  refine h ρ Φ w vals r ?_
  obtain ⟨u, us, rfl, h1, h2⟩ := ha.cons_left
  obtain ⟨u2, us2, rfl, h3, h4⟩ := h2.cons_left
  exact All2.cons h1 (All2.cons (VV_nl h3) h4)
def P0 : Prm := ⟨hz, 0, 100, 1, 2, 3, 5⟩
def lk0 : List UInt8 := 1 :: List.replicate 31 0
def s0 : Sta := ⟨0, 50, 50, [], []⟩
theorem P0_ok : P0.ok := by simp [P0, Prm.ok, i64, hz]
theorem s0_ok : s0.ok := by simp [s0, Sta.ok, i64]
theorem C0 : cmtS P0 s0 1 lk0 = (cmtT P0 s0 1 lk0, 0) := by kernel_rfl
theorem C1 : outsB P0 s0 1 lk0 = [⟨50, ownB P0 1 lk0⟩, ⟨45, allB [1]⟩] := by kernel_rfl
theorem hz_ex : hc hz = [EC.fz (FV.lit (.int .u8 0)), EC.fz (FV.lit (.int .u8 0)), EC.fz (FV.lit (.int .u8 0)), EC.fz (FV.lit (.int .u8 0)), EC.fz (FV.lit (.int .u8 0)), EC.fz (FV.lit (.int .u8 0)), EC.fz (FV.lit (.int .u8 0)), EC.fz (FV.lit (.int .u8 0)), EC.fz (FV.lit (.int .u8 0)), EC.fz (FV.lit (.int .u8 0)), EC.fz (FV.lit (.int .u8 0)), EC.fz (FV.lit (.int .u8 0)), EC.fz (FV.lit (.int .u8 0)), EC.fz (FV.lit (.int .u8 0)), EC.fz (FV.lit (.int .u8 0)), EC.fz (FV.lit (.int .u8 0)), EC.fz (FV.lit (.int .u8 0)), EC.fz (FV.lit (.int .u8 0)), EC.fz (FV.lit (.int .u8 0)), EC.fz (FV.lit (.int .u8 0)), EC.fz (FV.lit (.int .u8 0)), EC.fz (FV.lit (.int .u8 0)), EC.fz (FV.lit (.int .u8 0)), EC.fz (FV.lit (.int .u8 0)), EC.fz (FV.lit (.int .u8 0)), EC.fz (FV.lit (.int .u8 0)), EC.fz (FV.lit (.int .u8 0)), EC.fz (FV.lit (.int .u8 0)), EC.fz (FV.lit (.int .u8 0)), EC.fz (FV.lit (.int .u8 0)), EC.fz (FV.lit (.int .u8 0)), EC.fz (FV.lit (.int .u8 0))] := rfl
set_option maxRecDepth 8000 in
theorem sure_ok : ECalls Tryz.prog 12 [] [] fun y H' => H' = [] ∧ y = .lit (.bool true) := by
  have hop := BCommit_ok P0 s0 1 lk0 P0_ok s0_ok rfl
  rw [C0] at hop
  have hop' : ECalls Tryz.prog 18 [PVv P0, .v (.agg [iC 0, iC 50, iC 50, .fz (.lit (.slice none 0 0)), .fz (.lit (.slice none 0 0))]), I .i64 1, .v (.agg (hc lk0))] [] _ := ecalls_nl2 (e1 := 36) (e2 := 3) hop
  refine ecalls k_sure ?_
  simp [c_sure, hz_ex]
  refine call0 hop' (by kernel_rfl) ?_
  rintro y H' ⟨rfl, rfl⟩
  refine ⟨.inl (by simp [txC, iC]), le_ok rfl, ?_⟩
  simp [txC, cmtT, iC, C1, outv, outF, iF]
  exact fin0
@[simp] def ylpe : UL | _ => [xQ 0 3 (.box 28 (.t 0)), xQ 1 4 (.box 32 (.t 1)), xQ 2 6 (.mov (.k (.bool false)))]
@[simp] def ybpf : UB | _ => reg0 (hid ylpe) 3
@[simp] def ylpg : UL | _ => [xQ 0 12 (.lda 5 (.t 4)), xO 1 13 (.call 11 [(.t 12)])]
@[simp] def ybph : UB | _ => reg0 (hid ylpg) 2
@[simp] def ylpi : UL | _ => [xO 0 14 (.call 12 []), xM 1 6 14]
@[simp] def ybpj : UB | _ => reg0 (hid ylpi) 2
@[simp] def ylpk : UL | _ => [xM 6 15 21, xQ 7 22 (.ext 0 (.t 15)), xQ 8 23 (.ext 1 (.t 15)), xM 9 7 22, xM 10 8 23]
@[simp] def ylpl : UL | _ => xQ 0 16 (.lda 38 (.t 3)) :: xQ 2 18 (.lda 5 (.t 4)) :: xM 4 20 2 :: ⟨1, (some 17), none, (.call 14 [(.t 16)]), [2, 4]⟩ :: ⟨3, (some 19), none, (.call 15 [(.t 18)]), [4]⟩ :: xO 5 21 (.call 13 [(.t 17), (.t 19), (.t 20)]) :: hid ylpk
@[simp] def ylpm : UL | _ => [xQ 6 30 (.ext 1 (.t 24)), xM 7 9 29, xM 8 10 30]
@[simp] def ylpn : UL | _ => xQ 0 25 (.lda 38 (.t 3)) :: xQ 1 26 (.lda 5 (.t 4)) :: xM 2 27 2 :: xO 3 28 (.call 16 [(.t 25), (.t 26), (.t 27)]) :: xM 4 24 28 :: xQ 5 29 (.ext 0 (.t 24)) :: hid ylpm
@[simp] def ylpo : UL | _ => [xG 6 37 36 false (.mov (.t 8)), ⟨7, (some 38), (some (36, false)), (.call 17 [(.t 37)]), []⟩, xG 8 39 36 false (.mov (.t 10)), xG 9 40 36 false (.bin .neq (.t 38) (.t 39)), xQ 10 41 (.pick (.t 36) (.k (.bool true)) (.t 40))]
@[simp] def ylpp : UL | _ => xM 0 31 7 :: xQ 1 32 (.len (.t 31)) :: xM 2 33 9 :: xQ 3 34 (.len (.t 33)) :: xQ 4 35 (.bin .neq (.t 32) (.t 34)) :: xM 5 36 35 :: hid ylpo
@[simp] def ylpq : UL | _ => [xQ 0 6 (.mov (.k (.bool false)))]
@[simp] def ybpr : UB | _ => reg0 (hid ylpq) 1
@[simp] def ylps : UL | _ => [xQ 0 11 (.mov (xK 0))]
@[simp] def ybpt : UB | _ => reg0 (hid ylps) 1
@[simp] def ylpu : UL | _ => [xM 0 42 11, xM 1 43 7, xQ 2 44 (.len (.t 43)), xQ 3 45 (.bin .lss (.t 42) (.t 44))]
@[simp] def ybpv : UB | _ => reg0 (hid ylpu) 4
@[simp] def ylpw : UL | _ => [xQ 6 54 (.isl 2 (.t 52) (.t 53)), xQ 7 55 (.lda 2 (.t 54)), xQ 8 56 (.eqw true [(2, .i64)] (.t 51) (.t 55))]
@[simp] def ylpx : UL | _ => xM 0 48 7 :: xM 1 49 11 :: xQ 2 50 (.isl 2 (.t 48) (.t 49)) :: xQ 3 51 (.lda 2 (.t 50)) :: xM 4 52 9 :: xM 5 53 11 :: hid ylpw
@[simp] def ylpy : UL | _ => [xQ 0 6 (.mov (.k (.bool false)))]
@[simp] def ybpz : UB | _ => reg0 (hid ylpy) 1
@[simp] def ylq0 : UL | _ => [xM 0 46 11, xQ 1 47 (.bin .add (.t 46) (xK 1)), xM 2 11 47]
@[simp] def ybq1 : UB | _ => reg0 (hid ylq0) 3
@[simp] def ylq2 : UL | _ => [xO 0 57 (.call 12 []), xM 1 6 57]
@[simp] def ybq3 : UB | _ => reg0 (hid ylq2) 2
end Go.Proofs.YtflcfdeanneoeaaGreatDoor
namespace Go.Proofs.YtflcfdeanneoeaaGreatDoor
open Go.RowKit Go.Extern.Stop Go.Stop Go.Extern
theorem grow_w (n : Nat) (hn : n ≤ 1000000000) (h1 : 0 < n) (w : World) : Calls Tryz.prog 189 #[.slice none 0 0, .int .i64 n] w fun e w' =>
    e = .returned (.slice (some ⟨w.heap.size, 0, none⟩) 0 (grownCap w n 0 5)) ∧ w' = w.drew.alloc (.cells (Builtin.zeroCells #[.int .u8 0] n ++ Builtin.zeroCells #[.int .u8 0] (grownCap w n 0 5 - n)) 5) := by
  have key : (Tryz.prog.info? 5).map (fun i => (i.zero, i.size, i.bytes)) = some (some (.int .u8 0), 1, 1) := by kernel_rfl
  obtain ⟨i, hi, hz, hs, hb⟩ : ∃ i, Tryz.prog.info? 5 = some i ∧ i.zero = some (.int .u8 0) ∧ i.size = 1 ∧ i.bytes = 1 := by
    cases h : Tryz.prog.info? 5 with
    | none => rw [h] at key; simp at key
    | some i => rw [h] at key; simp at key; exact ⟨i, rfl, key.1, key.2.1, key.2.2⟩
  have hr : ∀ ty, (Builtin.append_ #[57, 3] ty #[.slice none 0 0, .int .i64 n]).run Tryz.prog w = .ok (.slice (some ⟨w.heap.size, 0, none⟩) n (grownCap w n 0 5)) (w.drew.alloc (.cells (Builtin.zeroCells #[.int .u8 0] n ++ Builtin.zeroCells #[.int .u8 0] (grownCap w n 0 5 - n)) 5)) := fun ty =>
    Lib.run_append_nil_zeros w 57 3 ty 5 _ (.int .u8 0) .i64 .i64 Tryz.underlying57 Tryz.underlying3 hi hz n h1 (by omega) (by omega) (by rw [hb]; omega)
  have h2 : ¬ ((n : Int) < 0) := by omega
  have h4 : (n : Int) > 0 := by omega
  have h3 : wrap64 (n : Int) = (n : Int) := by unfold wrap64; omega
  have hGn : n ≤ grownCap w n 0 5 := grownCap_ge w _ _ _
  obtain ⟨G, hG⟩ : ∃ G, G = grownCap w n 0 5 := ⟨_, rfl⟩
  rw [← hG] at hr hGn ⊢
  go_enter Tryz.func189, Tryz.ntmps189
  go_wp2_with (at_builtin; refine Lib.wpList_append_run _ rfl _ _ _ _ rfl _ _ rfl rfl _ _ (hr _) ?_)
  all_goals (go_ret; exact ⟨rfl, rfl⟩)
open Go.EW in
theorem Grow_ok (n : Nat) (hn : n ≤ 1000000000) (h1 : 0 < n) : ECalls Tryz.prog 189 [.v (.c (.fz (.lit (.slice none 0 0)))), .v (.c (.fz (.lit (.int .i64 n))))] [] fun y H' => H' = [some (.row 5 1 [])] ∧ y = .v (.c (.row 0 0)) := by
  intro ρ Φ w vals r ha
  obtain ⟨v, vs, rfl, hv, h2⟩ := ha.cons_left
  obtain ⟨v2, vs2, rfl, hv2, h3⟩ := h2.cons_left
  obtain rfl := h3.nil_left
  have hv' : FR Φ w (.lit (.slice none 0 0)) v := hv
  have hv2' : FR Φ w (.lit (.int .i64 n)) v2 := hv2
  cases hv'
  cases hv2'
  refine (grow_w n hn h1 w).mono fun e w' ⟨he, hw⟩ => ?_
  subst hw
  obtain ⟨G, hG⟩ : ∃ G, G = grownCap w n 0 5 := ⟨_, rfl⟩
  have hGn : n ≤ G := by rw [hG]; exact grownCap_ge w _ _ _
  have hGm : G ≤ maxLen := by rw [hG]; exact grownCap_le_maxLen w _ _ _ (by simp [maxLen]; omega)
  rw [← hG] at he ⊢
  have hu : (fun o : Nat => o < ([] : List EO).length ∨ o = 0) = fun o => o < [some (EO.row 5 1 [])].length := by funext o; simp
  have hh : upd (ofL ([] : List EO)) 0 (some (EO.row 5 1 [])) = ofO [some (EO.row 5 1 [])] := by
    funext o
    rcases o with _ | o
    · rfl
    · simp [upd, ofL, ofO]
  have key := r.new (w' := w.drew.alloc (.cells (Builtin.zeroCells #[.int .u8 0] n ++ Builtin.zeroCells #[.int .u8 0] (G - n)) 5)) rfl rfl rfl (by simp) (fun b hb => by
      have hb' : b < w.heap.size := hb
      show (w.drew.heap.push _)[b]? = w.heap[b]?
      rw [Array.getElem?_push_lt (by simpa using hb')]
      simp [hb', heap_drew]) 0 (by simp) (by simp) (.row 5 1 []) (.slice (some ⟨w.heap.size, 0, none⟩) 0 G) (by intro b hb; simp [EW.hb] at hb; subst hb; exact Nat.le_refl _) ?_
  · have k1 := key.1
    rw [hh, hu] at k1
    exact ⟨_, _, _, _, _, he, ⟨rfl, rfl⟩, by simp, ⟨by simp, some ⟨w.heap.size, 0, none⟩, 0, G, by simp [upd], Nat.le_refl _, Nat.zero_le _, rfl⟩, k1⟩
  · refine ⟨by decide, by simp, [], ⟨rfl, .inr ⟨w.heap.size, G, (Builtin.zeroCells #[.int .u8 0] n ++ Builtin.zeroCells #[.int .u8 0] (G - n)), rfl, Nat.zero_le _, ?_, Nat.zero_le _, hGm, ?_, by simp⟩⟩, All2.nil⟩
    · show (w.drew.heap.push _)[w.heap.size]? = _
      rw [show w.heap.size = w.drew.heap.size from rfl, Array.getElem?_push_size]
    · simp [Builtin.zeroCells]; omega
end Go.Proofs.YtflcfdeanneoeaaGreatDoor
namespace Go.Proofs.YtflcfdeanneoeaaGreatDoor
open Go Go.EW
set_option linter.unusedSimpArgs false
set_option linter.unusedVariables false
@[simp] def ylq4 : UL | _ => [xQ 0 2 (.mov (.k xS))]
@[simp] def ylq5 : UL | _ => [xQ 0 3 (.mov (xK 0))]
@[simp] def ylq6 : UL | _ => [xM 0 9 0, xQ 1 10 (.len (.t 9)), xQ 2 11 (.mov (xK 0))]
@[simp] def ylq7 : UL | _ => [xQ 0 12 (.bin .lss (.t 11) (.t 10))]
@[simp] def ylq8 : UL | _ => [xQ 0 13 (.isl 1 (.t 9) (.t 11)), xQ 1 14 (.ldc (.t 13)), xM 2 5 14]
@[simp] def ylq9 : UL | _ => [xM 0 15 3, xM 1 16 5, xQ 2 17 (.len (.t 16)), xQ 3 18 (.bin .add (.t 15) (.t 17)), xM 4 3 18]
@[simp] def ylqa : UL | _ => [xM 0 19 3, xQ 1 20 (.bin .lss (.t 19) (xK 0))]
@[simp] def ybqb : UB | _ => .seq (reg0 (hid ylq9) 5) (.seq (reg0 (hid ylqa) 2) (.cond (.t 20) .bot .skip))
@[simp] def ylqc : UL | _ => [xQ 0 22 (.bin .add (.t 11) (xK 1)), xM 1 11 22]
@[simp] def ybqd : UB | _ => .seq (.block 1 (.seq (reg0 (hid ylq8) 3) (hid ybqb))) (reg0 (hid ylqc) 2)
@[simp] def ybqe : UB | _ => .seq (reg0 (hid ylq7) 1) (.seq (.cond (.t 12) .skip (.exit 0)) (hid ybqd))
@[simp] def ylqf : UL | _ => [xM 0 23 3, xO 1 24 (.call 189 [(.k xS), (.t 23)]), xM 2 6 24]
@[simp] def ylqg : UL | _ => [xM 0 25 0, xQ 1 26 (.len (.t 25)), xQ 2 27 (.mov (xK 0))]
@[simp] def ylqh : UL | _ => [xQ 0 28 (.bin .lss (.t 27) (.t 26))]
@[simp] def ylqi : UL | _ => [xQ 0 29 (.isl 1 (.t 25) (.t 27)), xQ 1 30 (.ldc (.t 29)), xM 2 8 30]
@[simp] def ylqj : UL | _ => [xM 0 31 6, xM 1 32 8, xO 2 33 (.app 5 1 1 (.t 31) (.t 32)), xM 3 6 33]
@[simp] def ylqk : UL | _ => [xQ 0 34 (.bin .add (.t 27) (xK 1)), xM 1 27 34]
@[simp] def ybql : UB | _ => .seq (.block 3 (.seq (reg0 (hid ylqi) 3) (reg0 (hid ylqj) 4))) (reg0 (hid ylqk) 2)
@[simp] def ybqm : UB | _ => .seq (reg0 (hid ylqh) 1) (.seq (.cond (.t 28) .skip (.exit 2)) (hid ybql))
@[simp] def ylqn : UL | _ => [xM 0 35 6, xM 1 2 35]
@[simp] def ybqo : UB | _ => .seq (.seq (reg0 (hid ylqg) 3) (.block 2 (.loop (hid ybqm)))) (.seq (reg0 (hid ylqn) 2) .ret)
@[simp] def ybqp : UB | _ => .seq (.seq (reg0 (hid ylq6) 3) (.block 0 (.loop (hid ybqe)))) (.seq (reg0 (hid ylqf) 3) (hid ybqo))
@[simp] def ybqq : UB | _ => .seq (reg0 (hid ylq4) 1) (.seq (reg0 (hid ylq5) 1) (hid ybqp))
def c_Concat : EB × List QOp × Nat := ((hid ybqq), [(.mov (.t 2))], 36)
theorem k_Concat : cfun Tryz.prog 167 = some c_Concat := by kernel_rfl
@[simp] def ylqr : UL | _ => [xQ 0 3 (.box 116 (.t 1)), xQ 1 4 (.mov (.k xS))]
@[simp] def ylqs : UL | _ => [xM 6 5 15]
@[simp] def ylqt : UL | _ => xQ 1 11 (.fad 0 (.t 3)) :: xQ 2 12 (.ldc (.t 11)) :: xQ 3 13 (.len (.t 12)) :: xQ 4 14 (.cnv .u64 (.t 13)) :: ⟨0, (some 10), none, (.call 126 []), [1, 2, 3, 4]⟩ :: xO 5 15 (.call 127 [(.t 10), (.t 14)]) :: hid ylqs
@[simp] def ylqu : UL | _ => [xQ 0 16 (.fad 0 (.t 3)), xQ 1 17 (.ldc (.t 16)), xQ 2 18 (.len (.t 17)), xQ 3 19 (.mov (xK 0))]
@[simp] def ylqv : UL | _ => [xQ 0 20 (.bin .lss (.t 19) (.t 18))]
@[simp] def ylqw : UL | _ => [xQ 0 21 (.isl 35 (.t 17) (.t 19)), xQ 1 22 (.lda 35 (.t 21)), xQ 2 7 (.alloc 187 (([xS] : List Value) ++ zU8 ++ [xZ, xZ])), xN 3 (.fz (.sto 35 (.t 7) (.t 22)))]
@[simp] def ylqx : UL | _ => [xM 0 23 5, xQ 1 24 (.fad 0 (.t 7)), xQ 2 25 (.ldc (.t 24)), xQ 3 26 (.len (.t 25)), xQ 4 27 (.cnv .u64 (.t 26)), xO 5 28 (.call 127 [(.t 23), (.t 27)])]
@[simp] def ylqy : UL | _ => [xQ 0 29 (.fad 0 (.t 7)), xQ 1 30 (.ldc (.t 29)), xQ 2 31 (.len (.t 30)), xQ 3 32 (.mov (xK 0))]
@[simp] def ylqz : UL | _ => [xQ 0 33 (.bin .lss (.t 32) (.t 31))]
@[simp] def ylr0 : UL | _ => [xQ 0 34 (.isl 1 (.t 30) (.t 32)), xQ 1 35 (.ldc (.t 34)), xM 2 9 35]
@[simp] def ylr1 : UL | _ => [xM 0 36 5, xM 1 37 9, xQ 2 38 (.cnv .u64 (.t 37)), xO 3 39 (.call 127 [(.t 36), (.t 38)])]
@[simp] def ylr2 : UL | _ => [xQ 0 40 (.bin .add (.t 32) (xK 1)), xM 1 32 40]
@[simp] def ybr3 : UB | _ => .seq (.block 3 (.seq (reg0 (hid ylr0) 3) (reg0 (hid ylr1) 4))) (reg0 (hid ylr2) 2)
@[simp] def ybr4 : UB | _ => .seq (reg0 (hid ylqz) 1) (.seq (.cond (.t 33) .skip (.exit 2)) (hid ybr3))
@[simp] def ylr5 : UL | _ => [xQ 8 49 (.fad 34 (.t 7)), xQ 9 50 (.ldc (.t 49)), xQ 10 51 (.cnv .u64 (.t 50)), ⟨3, (some 44), none, (.call 128 [(.t 41), (.t 43)]), [4, 5, 6, 8, 9, 10]⟩, ⟨7, (some 48), none, (.call 127 [(.t 44), (.t 47)]), [8, 9, 10]⟩, xO 11 52 (.call 127 [(.t 48), (.t 51)])]
@[simp] def ylr6 : UL | _ => xM 0 41 5 :: xQ 1 42 (.fad 1 (.t 7)) :: xQ 2 43 (.lda 32 (.t 42)) :: xQ 4 45 (.fad 33 (.t 7)) :: xQ 5 46 (.ldc (.t 45)) :: xQ 6 47 (.cnv .u64 (.t 46)) :: hid ylr5
@[simp] def ybr7 : UB | _ => .seq (.seq (reg0 (hid ylqy) 4) (.block 2 (.loop (hid ybr4)))) (reg1 (hid ylr6) 12)
@[simp] def ybr8 : UB | _ => .seq (reg0 (hid ylqw) 4) (.seq (reg0 (hid ylqx) 6) (hid ybr7))
@[simp] def ylr9 : UL | _ => [xQ 0 53 (.bin .add (.t 19) (xK 1)), xM 1 19 53]
@[simp] def ybra : UB | _ => .seq (.cond (.t 20) .skip (.exit 0)) (.seq (.block 1 (hid ybr8)) (reg0 (hid ylr9) 2))
@[simp] def ybrb : UB | _ => .seq (reg0 (hid ylqu) 4) (.block 0 (.loop (.seq (reg0 (hid ylqv) 1) (hid ybra))))
@[simp] def ylrc : UL | _ => [xM 0 54 0, xM 1 55 5, xO 2 56 (.call 130 [(.t 55)]), xO 3 57 (.fz (.q (.bsl 1 [xS] 2 [(0, (.t 54)), (1, (.t 56))]))), xO 4 58 (.call 167 [(.t 57)]), xM 5 4 58]
@[simp] def ybrd : UB | _ => .seq (reg1 (hid ylqt) 7) (.seq (hid ybrb) (.seq (reg0 (hid ylrc) 6) .ret))
@[simp] def ybre : UB | _ => .seq (reg0 (hid ylqr) 2) (hid ybrd)
def c_CPut : EB × List QOp × Nat := ((hid ybre), [(.mov (.t 4))], 59)
theorem k_CPut : cfun Tryz.prog 131 = some c_CPut := by kernel_rfl
def braB (b : Bra) : List UInt8 := uB (b.keys.length : Int) ++ (usB b.keys ++ (b.lock ++ (uB b.af ++ uB b.ol)))
def brsB (l : List Bra) : List UInt8 := l.flatMap braB
def cndB (l : List Bra) : List UInt8 := uB (l.length : Int) ++ brsB l
theorem brsB_snoc (l : List Bra) (b : Bra) : brsB (l ++ [b]) = brsB l ++ braB b := by simp [brsB]
theorem flat_take {α : Type} (f : α → List UInt8) (l : List α) (i : Nat) : ((l.take i).flatMap f).length ≤ (l.flatMap f).length := by
  have : l.flatMap f = (l.take i).flatMap f ++ (l.drop i).flatMap f := by rw [← List.flatMap_append, List.take_append_drop]
  rw [this, List.length_append]
  omega
theorem flat_take_s {α : Type} (f : α → List UInt8) {l : List α} {i : Nat} {x : α} (h : l[i]? = some x) : ((l.take i).flatMap f).length + (f x).length ≤ (l.flatMap f).length := by
  have h1 := flat_take f l (i + 1)
  rw [take_s h, List.flatMap_append, List.length_append] at h1
  simpa using h1
theorem bsv_app (a b : List UInt8) : bsv a ++ bsv b = bsv (a ++ b) := by simp [bsv]
def two2 (a b : List UInt8) : List (List FV) := [[.sl 1 (bsv a)], [.sl 1 (bsv b)]]
def sumL (a b : List UInt8) (i : Nat) : Nat := if i = 0 then 0 else if i = 1 then a.length else a.length + b.length
def catL (a b : List UInt8) (i : Nat) : List UInt8 := if i = 0 then [] else if i = 1 then a else a ++ b
theorem Concat_ok (a b : List UInt8) (ha : a.length ≤ 400000000) (hb : b.length ≤ 400000000) (hb0 : 0 < b.length) : ECalls Tryz.prog 167 [.v (.c (.fz (.sl 1 (two2 a b))))] [] fun y H' => H' = [some (RO (a ++ b))] ∧ y = R 0 (a ++ b) := by
  have wa : IntKind.i64.wrap (a.length : Int) = (a.length : Int) := wrap_i64 (by omega) (by omega)
  have wb : IntKind.i64.wrap ((a.length : Int) + (b.length : Int)) = (a.length : Int) + (b.length : Int) := wrap_i64 (by omega) (by omega)
  have u1 : IntKind.i64.wrap 1 = 1 := by decide +kernel
  have u2 : IntKind.i64.wrap 2 = 2 := by decide +kernel
  have na : ¬ ((a.length : Int) < 0) := by omega
  have nb : ¬ ((a.length : Int) + (b.length : Int) < 0) := by omega
  refine ecalls k_Concat ?_
  simp [c_Concat, two2]
  refine eloop (α := Nat) (fun i => i ≤ 2) (fun i => 2 - i)
    (fun i => [.v (.c (.fz (.sl 1 (two2 a b)))), xA, xA, I .i64 (sumL a b i), xA, xA, xA, xA, xA, .v (.c (.fz (.sl 1 (two2 a b)))), I .i64 2, I .i64 i, xA, xA, xA, xA, xA, xA, xA, xA, xA, xA, xA, xA, xA, xA, xA, xA, xA, xA, xA, xA, xA, xA, xA, .any]) (fun i => []) 0 []
    (Nat.zero_le _) (by simp [I, two2, sumL]) (by simp) (by simp) (by simp) (by simp) ?_
  intro i hi
  obtain rfl | rfl | rfl : i = 0 ∨ i = 1 ∨ i = 2 := by omega
  · simp [I, two2, sumL, wa, na]
    exact round 1 [] (by omega) (by omega) (by simp [I, two2, sumL, u1]) (by simp) (by simp) (by simp) (by simp)
  · simp [I, two2, sumL, wb, nb]
    exact round 2 [] (by omega) (by omega) (by simp [I, two2, sumL, u2]) (by simp) (by simp) (by simp) (by simp)
  simp [I, two2, sumL]
  refine call0 (Grow_ok (a.length + b.length) (by omega) (by omega)) (by simp) ?_
  rintro y H' ⟨rfl, rfl⟩
  refine ⟨.inl (by simp), le_ok rfl, ?_⟩
  simp [I, two2]
  refine eloop (α := Nat) (fun i => i ≤ 2) (fun i => 2 - i)
    (fun i => [xA, xA, xA, xA, xA, xA, R 0 (catL a b i), xA, xA, xA, xA, xA, xA, xA, xA, xA, xA, xA, xA, xA, xA, xA, xA, xA, xA, .v (.c (.fz (.sl 1 (two2 a b)))), I .i64 2, I .i64 i, xA, xA, xA, xA, xA, xA, xA, .any]) (fun i => [some (RO (catL a b i))]) 0 [32]
    (Nat.zero_le _) (by simp [I, two2, catL, R]) (by simp [RO, catL, bsv]) (by simp) (by simp) (by simp) ?_
  intro i hi
  obtain rfl | rfl | rfl : i = 0 ∨ i = 1 ∨ i = 2 := by omega
  · simp [I, two2, catL, R, RO, u1]
    refine ⟨by omega, ?_⟩
    exact round 1 [97] (by omega) (by omega) (by simp [I, two2, catL, R]) (by simp [catL]) (by simp) (by simp) (by simp)
  · simp [I, two2, catL, R, RO, u2]
    refine ⟨by omega, ?_⟩
    exact round 2 [97] (by omega) (by omega) (by simp [I, two2, catL, R]) (by simp [catL, bsv_app]) (by simp) (by simp) (by simp)
  simp [I, two2, catL, R, RO]
  exact fin [0] (by decide) rfl rfl rfl ⟨rfl, rfl⟩
def BRL (l : List Bra) : EV := .v (.c (.fz (.sl 35 (brav l))))
theorem drop34z (a b : EC) : List.drop 34 (hc hz ++ [a, b]) = [] := by rw [List.drop_eq_nil_iff]; simp [hz]
theorem CPut_ok (pre : List UInt8) (l : List Bra) (hl : ∀ b ∈ l, b.ok) (hn : l.length ≤ 100000000) (hs : pre.length + (cndB l).length ≤ 400000000) : ECalls Tryz.prog 131 [Bs pre, CNv l] [] fun y H' => H' = [some (RO (pre ++ cndB l))] ∧ y = R 0 (pre ++ cndB l) := by
  have hc0 : (cndB l).length = (uB (l.length : Int)).length + (brsB l).length := by simp [cndB]
  refine ecalls k_CPut ?_
  simp [c_CPut, CNv, Bs]
  refine call0 New_ok rfl ?_
  rintro y H' ⟨rfl, rfl⟩
  refine ⟨.inl rfl, le_ok rfl, ?_⟩
  simp [Ptr, WO, RO, wrap_u64n]
  refine callH [32, 33] (WUint_ok [] (u64n (l.length : Int)) (u64n_lt _) (by simp)) (by simp [Ptr, I]) (by simp [WO, RO]) (by simp) (by simp) (by simp) ?_
  rintro y H' ⟨rfl, rfl⟩
  refine ⟨.inl (by simp), le_ok rfl, ?_⟩
  simp [WO, RO, Ptr, uB_eq]
  obtain ⟨F, hF⟩ : ∃ F : Nat → List UInt8, F = fun i => uB (l.length : Int) ++ brsB (l.take i) := ⟨_, rfl⟩
  have hF0 : uB (l.length : Int) = F 0 := by rw [hF]; simp [brsB]
  have hFl : ∀ i, (F i).length ≤ 400000000 := by
    intro i
    have hfl := flat_take braB l i
    rw [hF]; simp only [List.length_append]; unfold brsB at *; omega
  rw [hF0]
  refine eloop (α := Nat) (fun i => i ≤ l.length) (fun i => l.length - i)
    (fun i => [Bs pre, xA, xA, xA, xA, Ptr 0, xA, xA, xA, xA, xA, xA, xA, xA, xA, xA, xA, BRL l, I .i64 l.length, I .i64 i, xA, xA, xA, xA, xA, xA, xA, xA, xA, xA, xA, xA, xA, xA, xA, xA, xA, xA, xA, xA, xA, xA, xA, xA, xA, xA, xA, xA, xA, xA, xA, xA, xA, xA, xA, xA, xA, xA, .any]) (fun i => [some (WO 1 (F i)), some (RO (F i))]) 0 [32, 112]
    (Nat.zero_le _) (by simp [Ptr, I, Bs, BRL]) (by simp [WO, RO]) (by simp) (by simp) (by simp) ?_
  intro i hi
  have hX := hFl i
  simp [Ptr, I, Bs, BRL, WO, RO]
  refine alt (fun hlt => ?_) (fun hlt => ?_)
  · have hln : i < l.length := by omega
    obtain ⟨b, hcx⟩ : ∃ b, l[i]? = some b := ⟨l[i], by simp [hln]⟩
    have hge : (brav l)[i]'(by simpa using hln) = braF b := gE (brav_get hcx)
    have hb := hl b (List.mem_of_getElem? hcx)
    obtain ⟨b1, b2, b3, b4, b5⟩ := id hb
    have l0 := bc_len b2
    have f0 := bf_len b2
    have tk := bc_take b2
    have lk : List.take 32 (braC b).tail = hc b.lock := by have := bc_lock b2; simpa using this
    have e0 := idx_of (bc_0 b) (by omega)
    have e33 := idx_of (bc_33 b2) (by omega)
    have e34 := idx_of (bc_34 b2) (by omega)
    have w1 := wS (i := i) (by omega)
    have hfs := flat_take_s braB hcx
    have hbl : (braB b).length = (uB (b.keys.length : Int)).length + ((usB b.keys).length + (32 + ((uB b.af).length + (uB b.ol).length))) := by simp [braB, b2]
    have hXb : (F i).length + (braB b).length ≤ 400000000 := by
      rw [hF]; simp only [List.length_append]; unfold brsB at *; omega
    have hFs : F (i + 1) = F i ++ braB b := by rw [hF]; simp [take_s hcx, brsB_snoc]
    simp [hln, hge, braF_fz, l0, f0, tk, e0, wrap_u64n]
    refine callH [0, 1] (WUint_ok (F i) (u64n (b.keys.length : Int)) (u64n_lt _) (by omega)) (by simp [Ptr, I]) (by simp [WO, RO]) (by simp) (by simp) (by simp) ?_
    rintro y H' ⟨rfl, rfl⟩
    refine ⟨.inl (by simp), le_ok rfl, ?_⟩
    obtain ⟨G, hG⟩ : ∃ G : Nat → List UInt8, G = fun j => F i ++ uB (b.keys.length : Int) ++ usB (b.keys.take j) := ⟨_, rfl⟩
    have hG0 : F i ++ uB (b.keys.length : Int) = G 0 := by rw [hG]; simp [usB]
    have hGl : ∀ j, (G j).length + 32 + (uB b.af).length + (uB b.ol).length ≤ 400000000 := by
      intro j
      have hfk := flat_take uB b.keys j
      rw [hG]; simp only [List.length_append]; unfold usB at *; omega
    simp only [uB_eq, hG0]
    simp [WO, RO, Ptr, l0, e0, drop34z]
    refine eloop (α := Nat) (fun j => j ≤ b.keys.length) (fun j => b.keys.length - j)
      (fun j => [Bs pre, xA, xA, xA, xA, Ptr 0, xA, Ptr 2, xA, xA, xA, xA, xA, xA, xA, xA, xA, BRL l, I .i64 l.length, I .i64 i, xA, xA, xA, xA, xA, xA, xA, xA, xA, xA, IL b.keys, I .i64 b.keys.length, I .i64 j, xA, xA, xA, xA, xA, xA, xA, xA, xA, xA, xA, xA, xA, xA, xA, xA, xA, xA, xA, xA, xA, xA, xA, xA, xA, .any])
      (fun j => [some (WO 1 (G j)), some (RO (G j)), some (.box 187 (braC b))]) 0 [0, 162, 50]
      (Nat.zero_le _) (by simp [Ptr, I, Bs, BRL, IL]) (by simp [WO, RO]) (by simp) (by simp) (by simp) ?_
    intro j hj
    have hY := hGl j
    simp [Ptr, I, Bs, BRL, IL, WO, RO]
    refine alt (fun hlt2 => ?_) (fun hlt2 => ?_)
    · have hjn : j < b.keys.length := by omega
      obtain ⟨k, hc2⟩ : ∃ k, b.keys[j]? = some k := ⟨b.keys[j], by simp [hjn]⟩
      have hcb2 := intv_get hc2
      have w3 : IntKind.i64.wrap ((j : Int) + 1) = ((j + 1 : Nat) : Int) := wrap_i64 (by omega) (by omega)
      have hGs : G (j + 1) = G j ++ uB k := by rw [hG]; simp [take_s hc2, usB_snoc]
      simp [hcb2, wrap_u64n]
      refine callH [0, 1] (WUint_ok (G j) (u64n k) (u64n_lt _) (by omega)) (by simp [Ptr, I]) (by simp [WO, RO]) (by simp) (by simp) (by simp) ?_
      rintro y H' ⟨rfl, rfl⟩
      refine ⟨.inl (by simp), le_ok rfl, ?_⟩
      simp only [uB_eq, ← hGs]
      simp [WO, RO, Ptr, w3, -Int.natCast_add]
      exact round (j + 1) [0, 115, 2] (by omega) (by omega) (by simp [Ptr, I, Bs, BRL, IL]) (by simp [WO, RO]) (by simp) (by simp) (by simp)
    have hjl : j = b.keys.length := by omega
    subst hjl
    simp [l0, lk, e33, e34, iC, wrap_u64n]
    refine callH [0, 1] (WHash_ok (G b.keys.length) b.lock (by omega) b2) (by simp [Ptr, Ag, lk]) (by simp [WO, RO]) (by simp) (by simp [lk]) (by simp) ?_
    rintro y H' ⟨rfl, rfl⟩
    refine ⟨.inl (by simp), le_ok rfl, ?_⟩
    simp [WO, RO, Ptr, l0, lk, e33, e34, iC, wrap_u64n]
    refine callH [0, 67] (WUint_ok (G b.keys.length ++ b.lock) (u64n b.af) (u64n_lt _) (by simp; omega)) (by simp [Ptr, I]) (by simp [WO, RO]) (by simp) (by simp) (by simp) ?_
    rintro y H' ⟨rfl, rfl⟩
    refine ⟨.inl (by simp), le_ok rfl, ?_⟩
    simp only [uB_eq]
    simp [WO, RO, Ptr, l0, lk, e33, e34, iC, wrap_u64n]
    refine callH [0, 131] (WUint_ok (G b.keys.length ++ b.lock ++ uB b.af) (u64n b.ol) (u64n_lt _) (by simp; omega)) (by simp [Ptr, I]) (by simp [WO, RO]) (by simp) (by simp) (by simp) ?_
    rintro y H' ⟨rfl, rfl⟩
    refine ⟨.inl (by simp), le_ok rfl, ?_⟩
    have hGe : G b.keys.length ++ b.lock ++ uB b.af ++ uB b.ol = F (i + 1) := by rw [hFs, hG]; simp [braB]
    simp only [uB_eq, hGe]
    simp [WO, RO, Ptr, w1, -Int.natCast_add]
    exact round (i + 1) [0, 195] (by omega) (by omega) (by simp [Ptr, I, Bs, BRL]) (by simp [WO, RO]) (by simp) (by simp) (by simp)
  have hil : i = l.length := by omega
  subst hil
  have hXc : cndB l = F l.length := by rw [hF]; simp [cndB]
  simp
  refine callH [0, 1] (WDone_ok (F l.length) (by omega)) (by simp [Ptr]) (by simp [WO, RO]) (by simp) (by simp) (by simp) ?_
  rintro y H' ⟨rfl, rfl⟩
  refine ⟨.inl (by simp), le_ok rfl, ?_⟩
  simp [WO, RO, R]
  refine call0 (Concat_ok pre (F l.length) (by omega) (by omega) (by rw [← hXc, hc0]; simp [uB, uintB]; omega)) (by simp [two2]) ?_
  rintro y H' ⟨rfl, rfl⟩
  refine ⟨.inl (by simp), le_ok rfl, ?_⟩
  simp [R, RO]
  exact fin [82] (by decide) rfl rfl rfl ⟨by simp [hXc], by simp [hXc]⟩
end Go.Proofs.YtflcfdeanneoeaaGreatDoor
