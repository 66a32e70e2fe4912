import Derived.Test.YtddcceahaigodaaGreatDoorAll7
import Derived.Test.YtddcceahaigodaaGreatDoorAll10
import Derived.Test.YtddcceahaigodaaGreatDoorAll9
set_option maxHeartbeats 64000000
namespace Go.Proofs.YtddcceahaigodaaGreatDoor
open Go Go.EW
set_option linter.unusedSimpArgs false
def yl5h : UL | _ => [xM 6 13 3, xO 7 14 (.app 5 1 1 (.t 12) (.t 13)), xM 8 3 14]
def yl5i : UL | _ => xM 0 7 4 :: xM 1 8 0 :: xQ 2 9 (.bin .rem (.t 8) (.k (.int .u64 256))) :: xQ 3 10 (.cnv .u8 (.t 9)) :: xQ 4 11 (.bsl 1 [(.int .u8 0)] 1 [(0, .t 10)]) :: xO 5 12 (.app 5 1 1 (.t 7) (.t 11)) :: hid yl5h
def yl5j : UL | _ => [xM 0 15 0, xQ 1 16 (.bin .quo (.t 15) (.k (.int .u64 256))), xM 2 0 16]
def yb5n : UB | _ => .seq (.block 0 (.loop (.seq (.seq (reg0 [xM 0 5 0, xQ 1 6 (.bin .gtr (.t 5) (.k (.int .u64 0)))] 2) (.cond (.t 6) .skip (.exit 0))) (.block 1 (.seq (reg0 [xQ 0 4 (.mov (.k xS))] 1) (.seq (reg0 (hid yl5i) 9) (reg0 (hid yl5j) 3))))))) (.seq (reg0 [xM 0 17 3, xM 1 2 17] 2) .ret)
def yb5o : UB | _ => .seq (reg0 [xQ 0 2 (.mov (.k xS))] 1) (.seq (reg0 [xQ 0 3 (.mov (.k xS))] 1) (hid yb5n))
attribute [simp] yl5h yl5i yl5j yb5n yb5o
def c_digits : EB × List QOp × Nat := ((hid yb5o), [(.mov (.t 2))], 18)
theorem k_digits : cfun Tryz.prog 132 = some c_digits := by kernel_rfl
def yl5r : UL | _ => [xM 0 4 3, xM 1 5 0, xO 2 6 (.app 5 1 1 (.t 4) (.t 5)), xM 3 2 6]
def yb5s : UB | _ => .seq (reg0 [xQ 0 2 (.mov (.k xS))] 1) (.seq (reg0 [xQ 0 3 (.mov (.k xS))] 1) (.seq (reg0 (hid yl5r) 4) .ret))
attribute [simp] yl5r yb5s
def c_own : EB × List QOp × Nat := ((hid yb5s), [(.mov (.t 2))], 7)
theorem k_own : cfun Tryz.prog 133 = some c_own := by kernel_rfl
def yl5v : UL | _ => [xO 6 14 (.app 5 1 1 (.t 9) (.t 13)), xM 7 15 5, xO 8 16 (.app 5 1 1 (.t 14) (.t 15)), xM 9 4 16]
def yl5w : UL | _ => xM 0 8 0 :: xO 1 9 (.call 133 [.t 8]) :: xM 2 10 5 :: xE 3 11 10 :: xQ 4 12 (.cnv .u8 (.t 11)) :: xQ 5 13 (.bsl 1 [(.int .u8 0)] 1 [(0, .t 12)]) :: hid yl5v
def yb5x : UB | _ => .seq (reg0 [xQ 0 4 (.mov (.k xS))] 1) (.seq (reg0 [xM 0 6 1, xO 1 7 (.call 132 [.t 6]), xM 2 5 7] 3) (.seq (reg0 (hid yl5w) 10) .ret))
attribute [simp] yl5v yl5w yb5x
def c_RUint : EB × List QOp × Nat := ((hid yb5x), [(.mov (.t 4))], 17)
theorem k_RUint : cfun Tryz.prog 87 = some c_RUint := by kernel_rfl
def yl62 : UL | _ => [xO 6 21 (.app 5 1 1 (.t 15) (.t 20)), xM 7 5 21]
def yl63 : UL | _ => xM 0 15 5 :: xM 1 16 1 :: xM 2 17 6 :: xI 3 18 1 16 17 :: xL 4 19 18 :: xQ 5 20 (.bsl 1 [(.int .u8 0)] 1 [(0, .t 19)]) :: hid yl62
def yl64 : UL | _ => [xM 0 22 1, xM 1 23 6, xI 2 24 1 22 23, xL 3 25 24, xQ 4 26 (.bin .eql (.t 25) (.k (.int .u8 0)))]
def yl65 : UL | _ => [xM 0 27 5, xQ 1 28 (.bsl 1 [(.int .u8 0)] 1 [(0, (.k (.int .u8 255)))]), xO 2 29 (.app 5 1 1 (.t 27) (.t 28)), xM 3 5 29]
def yb69 : UB | _ => .seq (.seq (reg0 [xM 0 9 6, xM 1 10 1, xE 2 11 10, xb 3 12 .lss 9 11] 4) (.cond (.t 12) .skip (.exit 0))) (.seq (.block 1 (.seq (reg0 (hid yl63) 8) (.seq (reg0 (hid yl64) 5) (.cond (.t 26) (reg0 (hid yl65) 4) .skip)))) (reg0 [xM 0 13 6, xc 1 14 .add 13 1, xM 2 6 14] 3))
def yl6a : UL | _ => [xM 0 30 5, xQ 1 31 (.bsl 1 [(.int .u8 0)] 2 [(0, (.k (.int .u8 0))), (1, (.k (.int .u8 0)))]), xO 2 32 (.app 5 1 1 (.t 30) (.t 31)), xM 3 4 32]
def yb6c : UB | _ => .seq (reg0 [xQ 0 4 (.mov (.k xS))] 1) (.seq (reg0 [xM 0 7 0, xO 1 8 (.call 133 [.t 7]), xM 2 5 8] 3) (.seq (.seq (reg0 [xC 0 6 0] 1) (.block 0 (.loop (hid yb69)))) (.seq (reg0 (hid yl6a) 4) .ret)))
attribute [simp] yl62 yl63 yl64 yl65 yb69 yl6a yb6c
def c_RBytes : EB × List QOp × Nat := ((hid yb6c), [(.mov (.t 4))], 33)
theorem k_RBytes : cfun Tryz.prog 134 = some c_RBytes := by kernel_rfl
def yl6e : UL | _ => [xM 0 5 0, xQ 2 7 (.sar 32 (.t 3) none none), ⟨1, (some 6), none, (.call 133 [.t 5]), [2]⟩, xO 3 8 (.app 5 1 1 (.t 6) (.t 7)), xM 4 4 8]
def yb6f : UB | _ => .seq (reg0 [xW 0 3 23 1, xQ 1 4 (.mov (.k xS))] 2) (.seq (reg1 (hid yl6e) 5) .ret)
attribute [simp] yl6e yb6f
def c_RHash : EB × List QOp × Nat := ((hid yb6f), [(.mov (.t 4))], 9)
theorem k_RHash : cfun Tryz.prog 88 = some c_RHash := by kernel_rfl
theorem digits_ok (n : Nat) (h : n < 18446744073709551616) : ECalls Tryz.prog 132 [I .u64 n] [] fun y H' => H' = [some (RO (dg n))] ∧ y = R 0 (dg n) := by
 refine ecalls k_digits ?_
 simp [c_digits, I]
 refine loopW _ (weak_nilR 3 5 1 rfl (by omega)) ?_
 refine eloop (α := Nat × List UInt8) (fun a => a.1 < 18446744073709551616 ∧ a.2.length ≤ 8 ∧ dg a.1 ++ a.2 = dg n) (fun a => a.1)
  (fun a => [I .u64 a.1, xA, xA, R 0 a.2, xA, xA, xA, xA, xA, xA, xA, xA, xA, xA, xA, xA, xA, .any]) (fun a => [some (RO a.2)]) (n, []) [32] ⟨h, by simp, by simp⟩ (by simp [R, I]) (by simp [RO]) (by simp) (by simp) (by simp) ?_
 rintro ⟨k, ds⟩ ⟨hk, hdl, hds⟩
 simp [I, R, RO] at hk hdl hds ⊢
 refine alt (fun hp => ?_) (fun hp => ?_)
 ·have h8 := nb_8 h
  have hst := dg_step (n := k) (by omega)
  have hl := congrArg List.length hds
  rw [hst] at hds hl
  simp [dg_len] at hl
  have w1 : IntKind.u8.wrap ((k : Int).tmod 256) = ((b8 k).toNat : Int) := by
   rw [Int.tmod_eq_emod_of_nonneg (by omega), IntKind.wrap_u8, b8_nat]; omega
  have w2 : IntKind.u64.wrap ((k : Int) / 256) = ((k / 256 : Nat) : Int) := by
   rw [wrap_u64 (by omega) (by omega)]; rfl
  simp [w1, w2, -Int.natCast_ediv]
  exact ⟨by omega, round (k / 256, b8 k :: ds) [161] ⟨by simp; omega, by simp; omega, by simpa using hds⟩ (by simp; omega) (by simp; omega) (by simp [bsv, cb]) (by simp) (by simp) (by simp)⟩
 ·have : k = 0 := by omega
  subst this
  simp [dg_zero] at hds
  subst hds
  simp
  exact fin [0] (by decide) rfl rfl rfl ⟨rfl, rfl⟩
theorem own_ok (b : List UInt8) (hb : b.length ≤ 1000000000) : ECalls Tryz.prog 133 [Bs b] [] fun y H' => H' = [some (RO b)] ∧ y = R 0 b := by
 refine ecalls k_own ?_
 simp [c_own, Bs]
 exact ⟨by omega, fin [64] (by decide) rfl rfl rfl ⟨rfl, rfl⟩⟩
theorem RUint_ok (b : List UInt8) (n : Nat) (h : n < 18446744073709551616) (hb : b.length ≤ 900000000) : ECalls Tryz.prog 87 [Bs b, I .u64 n] [] fun y H' => H' = [some (RO (b ++ uintB n))] ∧ y = R 0 (b ++ uintB n) := by
 have h8 := nb_8 h
 refine ecalls k_RUint ?_
 simp [c_RUint, I, Bs]
 refine call0 (digits_ok n h) rfl ?_
 rintro y H' ⟨rfl, rfl⟩
 refine ⟨.inl rfl, le_ok rfl, ?_⟩
 simp [R, RO]
 refine call0 (own_ok b (by omega)) rfl ?_
 rintro y H' ⟨rfl, rfl⟩
 refine ⟨.inl rfl, le_ok rfl, ?_⟩
 simp [R, RO]
 exact ⟨by omega, by simp [dg_len]; omega, fin [192] (by decide) rfl rfl rfl ⟨by simp [uintB, dg_len, wrap_u8_nat, bsv, cb], by simp [uintB]; omega⟩⟩
theorem RBytes_ok (b l : List UInt8) (hb : b.length ≤ 900000000) (hl : l.length ≤ 10000000) : ECalls Tryz.prog 134 [Bs b, Bs l] [] fun y H' => H' = [some (RO (b ++ bytesB l))] ∧ y = R 0 (b ++ bytesB l) := by
 refine ecalls k_RBytes ?_
 simp [c_RBytes, Bs]
 refine call0 (own_ok b (by omega)) rfl ?_
 rintro y H' ⟨rfl, rfl⟩
 refine ⟨.inl rfl, le_ok rfl, ?_⟩
 simp [R, RO]
 refine eloop (α := Nat) (fun i => i ≤ l.length) (fun i => l.length - i)
  (fun i => [xA, Bs l, xA, xA, xA, R 0 (b ++ stuffB (l.take i)), I .i64 i, xA, xA, xA, xA, xA, xA, xA, xA, xA, xA, xA, xA, xA, xA, xA, xA, xA, xA, xA, xA, xA, xA, xA, xA, xA, .any]) (fun i => [some (RO (b ++ stuffB (l.take i)))]) 0 [32]
  (Nat.zero_le _) (by simp [Bs, I, R, stuffB]) (by simp [RO, stuffB]) (by simp) (by simp) (by simp) ?_
 intro i hi
 have hle := stuff_len (l.take i)
 have hlt : (l.take i).length = i := by simp; omega
 simp [I, Bs, R, RO]
 refine alt (fun hp => ?_) (fun hp => ?_)
 ·obtain ⟨c, hc⟩ : ∃ c, l[i]? = some c := ⟨l[i], by simp [hp]⟩
  have hcb : (bsv l)[i]? = some (cb c) := by simp [bsv, hc]
  have hts := take_snoc hc
  have w1 := wS (i := i) (by omega)
  simp [hcb, cb]
  refine ⟨by omega, alt (fun hz => ?_) (fun hz => ?_)⟩
  ·have hc0 : c = 0 := by apply UInt8.toNat_inj.1; simpa using hz
   have hst : stuffB (l.take (i + 1)) = stuffB (l.take i) ++ [0, 255] := by rw [hts, stuff_snoc, if_pos hc0]
   simp [w1, -Int.natCast_add]
   refine ⟨by omega, round (i + 1) [305] (by omega) (by omega) ?_ ?_ (by simp) (by simp) (by simp)⟩
   ·simp [hst]; omega
   ·subst hc0; simp [hst, bsv, cb]
  ·have hc0 : c ≠ 0 := by rintro rfl; exact hz rfl
   have hst : stuffB (l.take (i + 1)) = stuffB (l.take i) ++ [c] := by rw [hts, stuff_snoc, if_neg hc0]
   simp [w1, -Int.natCast_add]
   refine round (i + 1) [161] (by omega) (by omega) ?_ ?_ (by simp) (by simp) (by simp)
   ·simp [hst]; omega
   ·simp [hst, bsv, cb]
 ·have hil : i = l.length := by omega
  subst hil
  simp at hle
  simp
  exact ⟨by omega, fin [97] (by decide) rfl rfl rfl ⟨by simp [bytesB, bsv, cb], by simp [bytesB]; omega⟩⟩
theorem RHash_ok (b h : List UInt8) (hb : b.length ≤ 900000000) (hl : h.length = 32) : ECalls Tryz.prog 88 [Bs b, Ag h] [] fun y H' => H' = [some (RO (b ++ h))] ∧ y = R 0 (b ++ h) := by
 refine ecalls k_RHash ?_
 have ht : h.take 32 = h := List.tkL (by omega)
 simp [c_RHash, Bs, Ag, ht]
 refine call0 (own_ok b (by omega)) rfl ?_
 rintro y H' ⟨rfl, rfl⟩
 refine ⟨.inl rfl, le_ok rfl, ?_⟩
 simp [R, RO, ht]
 exact ⟨by omega, by omega, fin [80] (by decide) rfl rfl rfl ⟨by simp, by simp⟩⟩
set_option linter.unusedVariables false
def yl6h : UL | _ => [⟨8, (some 17), none, (.call 87 [.t 12, .t 16]), [9, 10, 11, 12]⟩, xO 13 22 (.call 87 [.t 17, .t 21]), xM 14 3 22]
def yl6i : UL | _ => xQ 7 16 (.cnv .u64 (.t 15)) :: xF 9 18 1 1 :: xQ 10 19 (.iad 2 1 (.t 18) (xK 1)) :: xL 11 20 19 :: xQ 12 21 (.cnv .u64 (.t 20)) :: ⟨3, (some 12), none, (.call 87 [(.k xS), .t 11]), [4, 5, 6, 7, 9, 10, 11, 12]⟩ :: hid yl6h
def yl6j : UL | _ => xF 0 9 0 1 :: xL 1 10 9 :: xQ 2 11 (.cnv .u64 (.t 10)) :: xF 4 13 1 1 :: xQ 5 14 (.iad 2 1 (.t 13) (xK 0)) :: xL 6 15 14 :: hid yl6i
def yl6k : UL | _ => [xM 6 3 28]
def yl6l : UL | _ => xM 0 23 3 :: xF 1 24 3 1 :: xL 2 25 24 :: xE 3 26 25 :: xQ 4 27 (.cnv .u64 (.t 26)) :: xO 5 28 (.call 87 [.t 23, .t 27]) :: hid yl6k
def yl6n : UL | _ => [xM 0 29 4, xF 1 30 3 1, xL 2 31 30, xE 3 32 31, xb 4 33 .lss 29 32]
def yl6o : UL | _ => [xN 6 (.sto 36 (.t 5) (.t 40))]
def yl6p : UL | _ => xF 0 36 3 1 :: xL 1 37 36 :: xM 2 38 4 :: xI 3 39 36 37 38 :: xD 4 40 36 39 :: xQ 5 5 (.alloc 118 (([xZ, xZ, xZ, xZ] : List Value) ++ zU8)) :: hid yl6o
def yl6q : UL | _ => [xQ 15 56 (.cnv .u64 (.t 55)), ⟨4, (some 45), none, (.call 87 [.t 41, .t 44]), [5, 6, 7, 9, 10, 11, 13, 14, 15]⟩, ⟨8, (some 49), none, (.call 87 [.t 45, .t 48]), [9, 10, 11, 13, 14, 15]⟩, ⟨12, (some 53), none, (.call 87 [.t 49, .t 52]), [13, 14, 15]⟩, xO 16 57 (.call 87 [.t 53, .t 56]), xM 17 3 57]
def yl6r : UL | _ => xQ 7 48 (.cnv .u64 (.t 47)) :: xF 9 50 2 5 :: xL 10 51 50 :: xQ 11 52 (.cnv .u64 (.t 51)) :: xF 13 54 3 5 :: xL 14 55 54 :: hid yl6q
def yl6s : UL | _ => xM 0 41 3 :: xF 1 42 0 5 :: xL 2 43 42 :: xQ 3 44 (.cnv .u64 (.t 43)) :: xF 5 46 1 5 :: xL 6 47 46 :: hid yl6r
def yl6t : UL | _ => [xM 0 58 3, xF 1 59 4 5, xD 2 60 32 59, xO 3 61 (.call 88 [.t 58, .t 60]), xM 4 3 61]
def yl6x : UL | _ => [xM 6 3 67]
def yl6y : UL | _ => xM 0 62 3 :: xF 1 63 4 1 :: xL 2 64 63 :: xE 3 65 64 :: xQ 4 66 (.cnv .u64 (.t 65)) :: xO 5 67 (.call 87 [.t 62, .t 66]) :: hid yl6x
def yl70 : UL | _ => [xM 0 68 6, xF 1 69 4 1, xL 2 70 69, xE 3 71 70, xb 4 72 .lss 68 71]
def yl71 : UL | _ => [xN 6 (.fz (.sto 3 (.t 7) (.t 79)))]
def yl72 : UL | _ => xF 0 75 4 1 :: xL 1 76 75 :: xM 2 77 6 :: xI 3 78 3 76 77 :: xD 4 79 3 78 :: xQ 5 7 (.alloc 112 [xZ, xZ, xS]) :: hid yl71
def yl73 : UL | _ => [⟨8, (some 88), none, (.call 87 [.t 84, .t 87]), [9, 10, 11, 12]⟩, xO 13 93 (.call 87 [.t 88, .t 92]), xM 14 3 93]
def yl74 : UL | _ => xQ 7 87 (.cnv .u64 (.t 86)) :: xF 9 89 2 7 :: xL 10 90 89 :: xE 11 91 90 :: xQ 12 92 (.cnv .u64 (.t 91)) :: ⟨4, (some 84), none, (.call 87 [.t 80, .t 83]), [5, 6, 7, 9, 10, 11, 12]⟩ :: hid yl73
def yl75 : UL | _ => xM 0 80 3 :: xF 1 81 0 7 :: xL 2 82 81 :: xQ 3 83 (.cnv .u64 (.t 82)) :: xF 5 85 1 7 :: xL 6 86 85 :: hid yl74
def yl77 : UL | _ => [xM 0 94 8, xF 1 95 2 7, xL 2 96 95, xE 3 97 96, xb 4 98 .lss 94 97]
def yl78 : UL | _ => [xQ 6 107 (.cnv .u64 (.t 106)), xO 7 108 (.call 87 [.t 101, .t 107]), xM 8 3 108]
def yl79 : UL | _ => xM 0 101 3 :: xF 1 102 2 7 :: xL 2 103 102 :: xM 3 104 8 :: xI 4 105 1 103 104 :: xL 5 106 105 :: hid yl78
def yb7d : UB | _ => .seq (reg1 (hid yl75) 15) (.seq (reg0 [xC 0 8 0] 1) (.block 4 (.loop (.seq (.seq (reg0 (hid yl77) 5) (.cond (.t 98) .skip (.exit 4))) (.seq (.block 5 (reg0 (hid yl79) 9)) (reg0 [xM 0 99 8, xc 1 100 .add 99 1, xM 2 8 100] 3))))))
def yb7f : UB | _ => .seq (.block 3 (.seq (reg0 (hid yl72) 7) (hid yb7d))) (reg0 [xM 0 73 6, xc 1 74 .add 73 1, xM 2 6 74] 3)
def yb7g : UB | _ => .seq (.seq (reg0 (hid yl70) 5) (.cond (.t 72) .skip (.exit 2))) (hid yb7f)
def yb7i : UB | _ => .seq (.seq (reg0 [xC 0 6 0] 1) (.block 2 (.loop (hid yb7g)))) (.seq (reg0 [xM 0 109 3, xM 1 2 109] 2) .ret)
def yb7j : UB | _ => .seq (.seq (reg0 [xC 0 4 0] 1) (.block 0 (.loop (.seq (.seq (reg0 (hid yl6n) 5) (.cond (.t 33) .skip (.exit 0))) (.seq (.block 1 (.seq (reg0 (hid yl6p) 7) (.seq (reg1 (hid yl6s) 18) (reg0 (hid yl6t) 5)))) (reg0 [xM 0 34 4, xc 1 35 .add 34 1, xM 2 4 35] 3)))))) (.seq (reg0 (hid yl6y) 7) (hid yb7i))
def yb7l : UB | _ => .seq (reg0 [xW 0 1 32 0, xQ 1 2 (.mov (.k xS))] 2) (.seq (reg1 (hid yl6j) 15) (.seq (reg0 (hid yl6l) 7) (hid yb7j)))
attribute [simp] yl6h yl6i yl6j yl6k yl6l yl6n yl6o yl6p yl6q yl6r yl6s yl6t yl6x yl6y yl70 yl71 yl72 yl73 yl74 yl75 yl77 yl78 yl79 yb7d yb7f yb7g yb7i yb7j yb7l
def c_REncode : EB × List QOp × Nat := ((hid yb7l), [(.mov (.t 2))], 110)
theorem k_REncode : cfun Tryz.prog 38 = some c_REncode := by kernel_rfl
theorem RUint_nil (n : Nat) (h : n < 18446744073709551616) : ECalls Tryz.prog 87 [.v (.c (.fz (.lit (.slice none 0 0)))), I .u64 n] [] fun y H' => H' = [some (RO (uintB n))] ∧ y = R 0 (uintB n) := ecalls_nil (es := 1) (RUint_ok [] n h (by simp))
theorem usB_cons (n : Int) (l : List Int) : usB (n :: l) = uB n ++ usB l := by simp [usB]
theorem usB_nil : usB [] = [] := rfl
theorem uB_eq (n : Int) : uintB (u64n n) = uB n := rfl
theorem REncode_ok (s : Sta) (hs : s.ok) (hm : s.small) : ECalls Tryz.prog 38 [SV s] [] fun y H' => H' = [] ∧ y = Bs (encS s) := by
 obtain ⟨ok1, ok2, ok3, ok4, ok5, ok6, ok7⟩ := id hs
 obtain ⟨m1, m2, m3⟩ := hm
 have lh : (headB s).length ≤ 36 := usB_len [s.num, s.h0, s.h1, (s.pays.length : Int)]
 have lp : ∀ i, (pB (s.pays.take i)).length ≤ 68000 := by
  intro i
  have h1 := flat_len (f := payB) (k := 68) (l := s.pays.take i) (fun p hp => payB_len (ok4 p (List.mem_of_mem_take hp)).2.2.2.2)
  have h2 : (s.pays.take i).length ≤ 1000 := by simp; omega
  unfold pB; omega
 have lq : (pB s.pays).length ≤ 68000 := by have := lp s.pays.length; rwa [List.take_length] at this
 have lm : (midB s).length ≤ 70000 := by
  have := usB_len [(s.holds.length : Int)]
  simp only [midB, List.length_append]
  simp only [List.length_cons, List.length_nil] at this
  omega
 have lk : ∀ i, (hB (s.holds.take i)).length ≤ 9100000 := by
  intro i
  have h1 := flat_len (f := holB) (k := 9100) (l := s.holds.take i) (fun p hp => holB_len (m3 p (List.mem_of_mem_take hp)))
  have h2 : (s.holds.take i).length ≤ 1000 := by simp; omega
  unfold hB; omega
 have hl : ∀ n, (uB n).length ≤ 9 := uB_len
 refine ecalls k_REncode ?_
 simp [c_REncode, SV, staC, wrap_u64n]
 refine call0 (RUint_nil (u64n s.num) (u64n_lt _)) (by simp [I]) ?_
 rintro y H' ⟨rfl, rfl⟩
 refine ⟨.inl (by simp), le_ok rfl, ?_⟩
 simp [R, RO, wrap_u64n, uB_eq]
 refine call0 (RUint_ok (uB s.num) (u64n s.h0) (u64n_lt _) (by have := hl s.num; omega)) (by simp [I, Bs]) ?_
 rintro y H' ⟨rfl, rfl⟩
 refine ⟨.inr ⟨rfl, by simp [RO, bsv, cb]⟩, le_ok rfl, ?_⟩
 simp [R, RO, wrap_u64n, uB_eq]
 refine call0 (RUint_ok (uB s.num ++ uB s.h0) (u64n s.h1) (u64n_lt _) (by have := hl s.num; have := hl s.h0; simp; omega)) (by simp [I, Bs, List.tkL]) ?_
 rintro y H' ⟨rfl, rfl⟩
 refine ⟨.inr ⟨rfl, by simp [RO, bsv, cb]⟩, le_ok rfl, ?_⟩
 simp [R, RO, wrap_u64n, uB_eq]
 refine call0 (RUint_ok (uB s.num ++ (uB s.h0 ++ uB s.h1)) (u64n (s.pays.length : Int)) (u64n_lt _) (by have := hl s.num; have := hl s.h0; have := hl s.h1; simp; omega)) (by simp [I, Bs, List.tkL]) ?_
 rintro y H' ⟨rfl, rfl⟩
 refine ⟨.inr ⟨rfl, by simp [RO, bsv, cb]⟩, le_ok rfl, ?_⟩
 have hhead : uB s.num ++ (uB s.h0 ++ (uB s.h1 ++ uB (s.pays.length : Int))) = headB s := by simp [headB, usB_cons, usB_nil]
 simp [R, RO, wrap_u64n, uB_eq, hhead]
 refine eloop (α := Nat) (fun i => i ≤ s.pays.length) (fun i => s.pays.length - i)
  (fun i => [xA, Ptr 0, xA, R 1 (headB s ++ pB (s.pays.take i)), I .i64 i, xA, xA, xA, xA, xA, xA, xA, xA, xA, xA, xA, xA, xA, xA, xA, xA, xA, xA, xA, xA, xA, xA, xA, xA, xA, xA, xA, xA, xA, xA, xA, xA, xA, xA, xA, xA, xA, xA, xA, xA, xA, xA, xA, xA, xA, xA, xA, xA, xA, xA, xA, xA, xA, xA, xA, xA, xA, xA, xA, xA, xA, xA, xA, xA, xA, xA, xA, xA, xA, xA, xA, xA, xA, xA, xA, xA, xA, xA, xA, xA, xA, xA, xA, xA, xA, xA, xA, xA, xA, xA, xA, xA, xA, xA, xA, xA, xA, xA, xA, xA, xA, xA, xA, xA, .any]) (fun i => [some (.box 32 (staC s)), some (RO (headB s ++ pB (s.pays.take i)))]) 0 [0, 352]
  (Nat.zero_le _) (by simp [Ptr, I, R, pB]) (by simp [RO, pB, staC]) (by simp) (by simp) (by simp) ?_
 intro i hi
 have lpi := lp i
 simp [Ptr, I, staC, R, RO]
 refine alt (fun hlt => ?_) (fun hlt => ?_)
 ·obtain ⟨p, hc⟩ : ∃ p, s.pays[i]? = some p := ⟨s.pays[i], by simp [hlt]⟩
  have hpo := ok4 p (List.mgE hc)
  have hl32 := hpo.2.2.2.2
  have ht : p.lock.take 32 = p.lock := List.tkL (by omega)
  have hcb := payv_get hc
  have w2 := wS (i := i) (by omega)
  have hl4 := hl p.id
  have hl5 := hl p.fr
  have hl6 := hl p.am
  have hl7 := hl p.af
  simp [hcb, payF, hl32, ht, wrap_u64n]
  refine call0 (RUint_ok (headB s ++ pB (s.pays.take i)) (u64n p.id) (u64n_lt _) (by simp; omega)) (by simp [I, Bs, Ag, List.tkL]) ?_
  rintro y H' ⟨rfl, rfl⟩
  refine ⟨.inr ⟨rfl, by simp [RO, bsv, cb]⟩, le_ok rfl, ?_⟩
  simp [R, RO, wrap_u64n, uB_eq]
  refine call0 (RUint_ok (headB s ++ pB (s.pays.take i) ++ uB p.id) (u64n p.fr) (u64n_lt _) (by simp; omega)) (by simp [I, Bs, Ag, List.tkL]) ?_
  rintro y H' ⟨rfl, rfl⟩
  refine ⟨.inr ⟨rfl, by simp [RO, bsv, cb]⟩, le_ok rfl, ?_⟩
  simp [R, RO, wrap_u64n, uB_eq]
  refine call0 (RUint_ok (headB s ++ pB (s.pays.take i) ++ uB p.id ++ uB p.fr) (u64n p.am) (u64n_lt _) (by simp; omega)) (by simp [I, Bs, Ag, List.tkL]) ?_
  rintro y H' ⟨rfl, rfl⟩
  refine ⟨.inr ⟨rfl, by simp [RO, bsv, cb]⟩, le_ok rfl, ?_⟩
  simp [R, RO, wrap_u64n, uB_eq]
  refine call0 (RUint_ok (headB s ++ pB (s.pays.take i) ++ uB p.id ++ uB p.fr ++ uB p.am) (u64n p.af) (u64n_lt _) (by simp; omega)) (by simp [I, Bs, Ag, List.tkL]) ?_
  rintro y H' ⟨rfl, rfl⟩
  refine ⟨.inr ⟨rfl, by simp [RO, bsv, cb]⟩, le_ok rfl, ?_⟩
  simp [R, RO, wrap_u64n, uB_eq]
  simp [hl32, ht]
  refine call0 (RHash_ok (headB s ++ pB (s.pays.take i) ++ uB p.id ++ uB p.fr ++ uB p.am ++ uB p.af) p.lock (by simp; omega) hl32) (by simp [I, Bs, Ag, ht, List.tkL]) ?_
  rintro y H' ⟨rfl, rfl⟩
  refine ⟨.inr ⟨rfl, by simp [RO, bsv, cb]⟩, le_ok rfl, ?_⟩
  simp [w2, R, RO, -Int.natCast_add]
  have hsn : pB (s.pays.take (i + 1)) = pB (s.pays.take i) ++ (uB p.id ++ (uB p.fr ++ (uB p.am ++ (uB p.af ++ p.lock)))) := by rw [take_s hc, pB_snoc]; simp [payB, usB_cons, usB_nil]
  exact round (i + 1) [0, 530] (by omega) (by omega) (by simp [hsn, R]) (by simp [hsn, RO]) (by simp) (by simp) (by simp)
 have hil : i = s.pays.length := by omega
 subst hil
 rw [List.take_length] at lpi ⊢
 simp [wrap_u64n]
 have hl8 := hl (s.holds.length : Int)
 refine call0 (RUint_ok (headB s ++ pB s.pays) (u64n (s.holds.length : Int)) (u64n_lt _) (by simp; omega)) (by simp [I, Bs, Ag, List.tkL]) ?_
 rintro y H' ⟨rfl, rfl⟩
 refine ⟨.inr ⟨rfl, by simp [RO, bsv, cb]⟩, le_ok rfl, ?_⟩
 simp [R, RO, wrap_u64n, uB_eq]
 have hmid : headB s ++ (pB s.pays ++ uB (s.holds.length : Int)) = midB s := by simp [midB, usB_cons, usB_nil]
 simp [hmid]
 refine eloop (α := Nat) (fun i => i ≤ s.holds.length) (fun i => s.holds.length - i)
  (fun i => [xA, Ptr 0, xA, R 1 (midB s ++ hB (s.holds.take i)), xA, xA, I .i64 i, xA, xA, xA, xA, xA, xA, xA, xA, xA, xA, xA, xA, xA, xA, xA, xA, xA, xA, xA, xA, xA, xA, xA, xA, xA, xA, xA, xA, xA, xA, xA, xA, xA, xA, xA, xA, xA, xA, xA, xA, xA, xA, xA, xA, xA, xA, xA, xA, xA, xA, xA, xA, xA, xA, xA, xA, xA, xA, xA, xA, xA, xA, xA, xA, xA, xA, xA, xA, xA, xA, xA, xA, xA, xA, xA, xA, xA, xA, xA, xA, xA, xA, xA, xA, xA, xA, xA, xA, xA, xA, xA, xA, xA, xA, xA, xA, xA, xA, xA, xA, xA, xA, .any]) (fun i => [some (.box 32 (staC s)), some (RO (midB s ++ hB (s.holds.take i)))]) 0 [0, 162]
  (Nat.zero_le _) (by simp [Ptr, I, R, hB, ← hmid]) (by simp [RO, hB, staC, ← hmid]) (by simp) (by simp) (by simp) ?_
 intro i hi
 have lki := lk i
 simp [Ptr, I, staC, R, RO]
 refine alt (fun hlt => ?_) (fun hlt => ?_)
 ·obtain ⟨p, hc⟩ : ∃ p, s.holds[i]? = some p := ⟨s.holds[i], by simp [hlt]⟩
  have hk := m3 p (List.mgE hc)
  have hcb := holv_get hc
  have w2 := wS (i := i) (by omega)
  have hl4 := hl p.id
  have hl5 := hl p.am
  have hl6 := hl (p.keys.length : Int)
  simp [hcb, holF, wrap_u64n]
  refine call0 (RUint_ok (midB s ++ hB (s.holds.take i)) (u64n p.id) (u64n_lt _) (by simp; omega)) (by simp [I, Bs, Ag, List.tkL]) ?_
  rintro y H' ⟨rfl, rfl⟩
  refine ⟨.inr ⟨rfl, by simp [RO, bsv, cb]⟩, le_ok rfl, ?_⟩
  simp [R, RO, wrap_u64n, uB_eq]
  refine call0 (RUint_ok (midB s ++ hB (s.holds.take i) ++ uB p.id) (u64n p.am) (u64n_lt _) (by simp; omega)) (by simp [I, Bs, Ag, List.tkL]) ?_
  rintro y H' ⟨rfl, rfl⟩
  refine ⟨.inr ⟨rfl, by simp [RO, bsv, cb]⟩, le_ok rfl, ?_⟩
  simp [R, RO, wrap_u64n, uB_eq]
  refine call0 (RUint_ok (midB s ++ hB (s.holds.take i) ++ uB p.id ++ uB p.am) (u64n (p.keys.length : Int)) (u64n_lt _) (by simp; omega)) (by simp [I, Bs, Ag, List.tkL]) ?_
  rintro y H' ⟨rfl, rfl⟩
  refine ⟨.inr ⟨rfl, by simp [RO, bsv, cb]⟩, le_ok rfl, ?_⟩
  simp [R, RO, wrap_u64n, uB_eq]
  refine eloop (α := Nat) (fun j => j ≤ p.keys.length) (fun j => p.keys.length - j)
   (fun j => [xA, Ptr 0, xA, R 2 (midB s ++ hB (s.holds.take i) ++ uB p.id ++ uB p.am ++ uB (p.keys.length : Int) ++ usB (p.keys.take j)), xA, xA, I .i64 i, Ptr 1, I .i64 j, xA, xA, xA, xA, xA, xA, xA, xA, xA, xA, xA, xA, xA, xA, xA, xA, xA, xA, xA, xA, xA, xA, xA, xA, xA, xA, xA, xA, xA, xA, xA, xA, xA, xA, xA, xA, xA, xA, xA, xA, xA, xA, xA, xA, xA, xA, xA, xA, xA, xA, xA, xA, xA, xA, xA, xA, xA, xA, xA, xA, xA, xA, xA, xA, xA, xA, xA, xA, xA, xA, xA, xA, xA, xA, xA, xA, xA, xA, xA, xA, xA, xA, xA, xA, xA, xA, xA, xA, xA, xA, xA, xA, xA, xA, xA, xA, xA, xA, xA, xA, .any])
   (fun j => [some (.box 32 (staC s)), some (.box 112 (holC p)), some (RO (midB s ++ hB (s.holds.take i) ++ uB p.id ++ uB p.am ++ uB (p.keys.length : Int) ++ usB (p.keys.take j)))]) 0 [0, 162, 402]
   (Nat.zero_le _) (by simp [Ptr, I, R, usB]) (by simp [RO, usB, staC, holC]) (by simp) (by simp) (by simp) ?_
  intro j hj
  have lkj := usB_len (p.keys.take j)
  have lkk : (p.keys.take j).length = j := by simp; omega
  simp [Ptr, I, staC, holC, R, RO]
  refine alt (fun hlt2 => ?_) (fun hlt2 => ?_)
  ·obtain ⟨k, hc2⟩ : ∃ k, p.keys[j]? = some k := ⟨p.keys[j], by simp [hlt2]⟩
   have hcb2 := intv_get hc2
   have w3 : IntKind.i64.wrap ((j : Int) + 1) = ((j + 1 : Nat) : Int) := wrap_i64 (by omega) (by omega)
   have hts : p.keys.take (j + 1) = p.keys.take j ++ [k] := by rw [List.take_add_one, hc2]; rfl
   simp [hcb2, wrap_u64n]
   refine call0 (RUint_ok (midB s ++ hB (s.holds.take i) ++ uB p.id ++ uB p.am ++ uB (p.keys.length : Int) ++ usB (p.keys.take j)) (u64n k) (u64n_lt _) (by simp; omega)) (by simp [I, Bs, Ag, List.tkL]) ?_
   rintro y H' ⟨rfl, rfl⟩
   refine ⟨.inr ⟨rfl, by simp [RO, bsv, cb]⟩, le_ok rfl, ?_⟩
   simp [R, RO, wrap_u64n, uB_eq, w3, -Int.natCast_add]
   exact round (j + 1) [0, 1, 195] (by omega) (by omega) (by simp [hts, usB_snoc, R]) (by simp [hts, usB_snoc, RO]) (by simp) (by simp) (by simp)
  have hjl : j = p.keys.length := by omega
  subst hjl
  rw [List.take_length] at lkj ⊢
  have hsn : hB (s.holds.take (i + 1)) = hB (s.holds.take i) ++ (uB p.id ++ (uB p.am ++ (uB (p.keys.length : Int) ++ usB p.keys))) := by rw [take_s hc, hB_snoc]; simp [holB, usB_cons, usB_nil]
  simp [w2, -Int.natCast_add]
  exact round (i + 1) [0, 2] (by omega) (by omega) (by simp [hsn, R]) (by simp [hsn, RO]) (by simp) (by simp) (by simp)
 have hil : i = s.holds.length := by omega
 subst hil
 rw [List.take_length] at lki ⊢
 simp
 refine finW _ (weak_frz (o := 1) (ty := 5) (es := 1) (xs := bsv (midB s ++ hB s.holds)) rfl) ?_
 exact fin [] (by decide) rfl rfl rfl ⟨rfl, by simp [Bs, encS_eq, List.tkL]⟩
def yl7r : UL | _ => [xM 0 15 3, xM 1 16 5, xE 2 17 16, xb 3 18 .add 15 17, xM 4 3 18]
def yb7w : UB | _ => .seq (reg0 [xb 0 12 .lss 11 10] 1) (.seq (.cond (.t 12) .skip (.exit 0)) (.seq (.block 1 (.seq (reg0 [xI 0 13 1 9 11, xL 1 14 13, xM 2 5 14] 3) (.seq (reg0 (hid yl7r) 5) (.seq (reg0 [xM 0 19 3, xc 1 20 .lss 19 0] 2) (.cond (.t 20) .bot .skip))))) (reg0 [xc 0 22 .add 11 1, xM 1 11 22] 2)))
def yl81 : UL | _ => [xM 0 31 6, xM 1 32 8, xO 2 33 (.app 5 1 1 (.t 31) (.t 32)), xM 3 6 33]
def yb84 : UB | _ => .seq (reg0 [xb 0 28 .lss 27 26] 1) (.seq (.cond (.t 28) .skip (.exit 2)) (.seq (.block 3 (.seq (reg0 [xI 0 29 1 25 27, xL 1 30 29, xM 2 8 30] 3) (reg0 (hid yl81) 4))) (reg0 [xc 0 34 .add 27 1, xM 1 27 34] 2)))
def yb86 : UB | _ => .seq (.seq (reg0 [xM 0 25 0, xE 1 26 25, xC 2 27 0] 3) (.block 2 (.loop (hid yb84)))) (.seq (reg0 [xM 0 35 6, xM 1 2 35] 2) .ret)
def yb87 : UB | _ => .seq (.seq (reg0 [xM 0 9 0, xE 1 10 9, xC 2 11 0] 3) (.block 0 (.loop (hid yb7w)))) (.seq (reg0 [xM 0 23 3, xO 1 24 (.call 178 [(.k xS), .t 23]), xM 2 6 24] 3) (hid yb86))
def yb88 : UB | _ => .seq (reg0 [xQ 0 2 (.mov (.k xS))] 1) (.seq (reg0 [xC 0 3 0] 1) (hid yb87))
attribute [simp] yl7r yb7w yl81 yb84 yb86 yb87 yb88
def c_Concat : EB × List QOp × Nat := ((hid yb88), [(.mov (.t 2))], 36)
theorem k_Concat : cfun Tryz.prog 158 = some c_Concat := by kernel_rfl
def yl8a : UL | _ => [xM 6 5 15]
def yl8b : UL | _ => xF 1 11 0 3 :: xL 2 12 11 :: xE 3 13 12 :: xQ 4 14 (.cnv .u64 (.t 13)) :: ⟨0, (some 10), none, (.call 82 []), [1, 2, 3, 4]⟩ :: xO 5 15 (.call 84 [.t 10, .t 14]) :: hid yl8a
def yl8e : UL | _ => [xI 0 21 35 17 19, xD 1 22 35 21, xQ 2 7 (.alloc 169 (([xS] : List Value) ++ zU8 ++ [xZ, xZ])), xN 3 (.fz (.sto 35 (.t 7) (.t 22)))]
def yl8f : UL | _ => [xM 0 23 5, xF 1 24 0 7, xL 2 25 24, xE 3 26 25, xQ 4 27 (.cnv .u64 (.t 26)), xO 5 28 (.call 84 [.t 23, .t 27])]
def yl8j : UL | _ => [xM 0 36 5, xM 1 37 9, xQ 2 38 (.cnv .u64 (.t 37)), xO 3 39 (.call 84 [.t 36, .t 38])]
def yb8m : UB | _ => .seq (reg0 [xb 0 33 .lss 32 31] 1) (.seq (.cond (.t 33) .skip (.exit 2)) (.seq (.block 3 (.seq (reg0 [xI 0 34 1 30 32, xL 1 35 34, xM 2 9 35] 3) (reg0 (hid yl8j) 4))) (reg0 [xc 0 40 .add 32 1, xM 1 32 40] 2)))
def yl8n : UL | _ => [xF 8 49 34 7, xL 9 50 49, xQ 10 51 (.cnv .u64 (.t 50)), ⟨3, (some 44), none, (.call 85 [.t 41, .t 43]), [4, 5, 6, 8, 9, 10]⟩, ⟨7, (some 48), none, (.call 84 [.t 44, .t 47]), [8, 9, 10]⟩, xO 11 52 (.call 84 [.t 48, .t 51])]
def yl8o : UL | _ => xM 0 41 5 :: xF 1 42 1 7 :: xD 2 43 32 42 :: xF 4 45 33 7 :: xL 5 46 45 :: xQ 6 47 (.cnv .u64 (.t 46)) :: hid yl8n
def yb8p : UB | _ => .seq (.seq (reg0 [xF 0 29 0 7, xL 1 30 29, xE 2 31 30, xC 3 32 0] 4) (.block 2 (.loop (hid yb8m)))) (reg1 (hid yl8o) 12)
def yb8q : UB | _ => .seq (reg0 (hid yl8e) 4) (.seq (reg0 (hid yl8f) 6) (hid yb8p))
def yb8s : UB | _ => .seq (.cond (.t 20) .skip (.exit 0)) (.seq (.block 1 (hid yb8q)) (reg0 [xc 0 53 .add 19 1, xM 1 19 53] 2))
def yb8t : UB | _ => .seq (reg0 [xF 0 16 0 3, xL 1 17 16, xE 2 18 17, xC 3 19 0] 4) (.block 0 (.loop (.seq (reg0 [xb 0 20 .lss 19 18] 1) (hid yb8s))))
def yl8u : UL | _ => [xM 0 54 0, xM 1 55 5, xO 2 56 (.call 86 [.t 55]), xO 3 57 (.fz (.q (.bsl 1 [xS] 2 [(0, .t 54), (1, .t 56)]))), xO 4 58 (.call 158 [.t 57]), xM 5 4 58]
def yb8v : UB | _ => .seq (reg1 (hid yl8b) 7) (.seq (hid yb8t) (.seq (reg0 (hid yl8u) 6) .ret))
def yb8w : UB | _ => .seq (reg0 [xW 0 3 97 1, xQ 1 4 (.mov (.k xS))] 2) (hid yb8v)
attribute [simp] yl8a yl8b yl8e yl8f yl8j yb8m yl8n yl8o yb8p yb8q yb8s yb8t yl8u yb8v yb8w
def c_CPut : EB × List QOp × Nat := ((hid yb8w), [(.mov (.t 4))], 59)
theorem k_CPut : cfun Tryz.prog 112 = some c_CPut := by kernel_rfl
def braB (b : Bra) : List UInt8 := uB (b.keys.length : Int) ++ (usB b.keys ++ (b.lock ++ (uB b.af ++ uB b.ol)))
def brsB (l : List Bra) : List UInt8 := l.flatMap braB
def cndB (l : List Bra) : List UInt8 := uB (l.length : Int) ++ brsB l
theorem brsB_snoc (l : List Bra) (b : Bra) : brsB (l ++ [b]) = brsB l ++ braB b := by simp [brsB]
theorem flat_take {α : Type} (f : α → List UInt8) (l : List α) (i : Nat) : ((l.take i).flatMap f).length ≤ (l.flatMap f).length := by
 have : l.flatMap f = (l.take i).flatMap f ++ (l.drop i).flatMap f := by rw [← List.flatMap_append, List.take_append_drop]
 rw [this, List.length_append]
 omega
theorem flat_take_s {α : Type} (f : α → List UInt8) {l : List α} {i : Nat} {x : α} (h : l[i]? = some x) : ((l.take i).flatMap f).length + (f x).length ≤ (l.flatMap f).length := by
 have h1 := flat_take f l (i + 1)
 rw [take_s h, List.flatMap_append, List.length_append] at h1
 simpa using h1
theorem bsv_app (a b : List UInt8) : bsv a ++ bsv b = bsv (a ++ b) := by simp [bsv]
def two2 (a b : List UInt8) : List (List FV) := [[.sl 1 (bsv a)], [.sl 1 (bsv b)]]
def sumL (a b : List UInt8) (i : Nat) : Nat := if i = 0 then 0 else if i = 1 then a.length else a.length + b.length
def catL (a b : List UInt8) (i : Nat) : List UInt8 := if i = 0 then [] else if i = 1 then a else a ++ b
theorem Concat_ok (a b : List UInt8) (ha : a.length ≤ 400000000) (hb : b.length ≤ 400000000) (hb0 : 0 < b.length) : ECalls Tryz.prog 158 [.v (.c (.fz (.sl 1 (two2 a b))))] [] fun y H' => H' = [some (RO (a ++ b))] ∧ y = R 0 (a ++ b) := by
 have wa : IntKind.i64.wrap (a.length : Int) = (a.length : Int) := wrap_i64 (by omega) (by omega)
 have wb : IntKind.i64.wrap ((a.length : Int) + (b.length : Int)) = (a.length : Int) + (b.length : Int) := wrap_i64 (by omega) (by omega)
 have u1 : IntKind.i64.wrap 1 = 1 := by decide +kernel
 have u2 : IntKind.i64.wrap 2 = 2 := by decide +kernel
 have na : ¬ ((a.length : Int) < 0) := by omega
 have nb : ¬ ((a.length : Int) + (b.length : Int) < 0) := by omega
 refine ecalls k_Concat ?_
 simp [c_Concat, two2]
 refine eloop (α := Nat) (fun i => i ≤ 2) (fun i => 2 - i)
  (fun i => [.v (.c (.fz (.sl 1 (two2 a b)))), xA, xA, I .i64 (sumL a b i), xA, xA, xA, xA, xA, .v (.c (.fz (.sl 1 (two2 a b)))), I .i64 2, I .i64 i, xA, xA, xA, xA, xA, xA, xA, xA, xA, xA, xA, xA, xA, xA, xA, xA, xA, xA, xA, xA, xA, xA, xA, .any]) (fun i => []) 0 []
  (Nat.zero_le _) (by simp [I, two2, sumL]) (by simp) (by simp) (by simp) (by simp) ?_
 intro i hi
 obtain rfl | rfl | rfl : i = 0 ∨ i = 1 ∨ i = 2 := by omega
 ·simp [I, two2, sumL, wa, na]
  exact round 1 [] (by omega) (by omega) (by simp [I, two2, sumL, u1]) (by simp) (by simp) (by simp) (by simp)
 ·simp [I, two2, sumL, wb, nb]
  exact round 2 [] (by omega) (by omega) (by simp [I, two2, sumL, u2]) (by simp) (by simp) (by simp) (by simp)
 simp [I, two2, sumL]
 refine call0 (Grow_ok (a.length + b.length) (by omega) (by omega)) (by simp) ?_
 rintro y H' ⟨rfl, rfl⟩
 refine ⟨.inl (by simp), le_ok rfl, ?_⟩
 simp [I, two2]
 refine eloop (α := Nat) (fun i => i ≤ 2) (fun i => 2 - i)
  (fun i => [xA, xA, xA, xA, xA, xA, R 0 (catL a b i), xA, xA, xA, xA, xA, xA, xA, xA, xA, xA, xA, xA, xA, xA, xA, xA, xA, xA, .v (.c (.fz (.sl 1 (two2 a b)))), I .i64 2, I .i64 i, xA, xA, xA, xA, xA, xA, xA, .any]) (fun i => [some (RO (catL a b i))]) 0 [32]
  (Nat.zero_le _) (by simp [I, two2, catL, R]) (by simp [RO, catL, bsv]) (by simp) (by simp) (by simp) ?_
 intro i hi
 obtain rfl | rfl | rfl : i = 0 ∨ i = 1 ∨ i = 2 := by omega
 ·simp [I, two2, catL, R, RO, u1]
  refine ⟨by omega, ?_⟩
  exact round 1 [97] (by omega) (by omega) (by simp [I, two2, catL, R]) (by simp [catL]) (by simp) (by simp) (by simp)
 ·simp [I, two2, catL, R, RO, u2]
  refine ⟨by omega, ?_⟩
  exact round 2 [97] (by omega) (by omega) (by simp [I, two2, catL, R]) (by simp [catL, bsv_app]) (by simp) (by simp) (by simp)
 simp [I, two2, catL, R, RO]
 exact fin [0] (by decide) rfl rfl rfl ⟨rfl, rfl⟩
def BRL (l : List Bra) : EV := .v (.c (.fz (.sl 35 (brav l))))
theorem drop34z (a b : EC) : List.drop 34 (hc hz ++ [a, b]) = [] := by rw [List.drop_eq_nil_iff]; simp [hz]
theorem CPut_ok (pre : List UInt8) (l : List Bra) (hl : ∀ b ∈ l, b.ok) (hn : l.length ≤ 100000000) (hs : pre.length + (cndB l).length ≤ 400000000) : ECalls Tryz.prog 112 [Bs pre, CNv l] [] fun y H' => H' = [some (RO (pre ++ cndB l))] ∧ y = R 0 (pre ++ cndB l) := by
 have hc0 : (cndB l).length = (uB (l.length : Int)).length + (brsB l).length := by simp [cndB]
 refine ecalls k_CPut ?_
 simp [c_CPut, CNv, Bs]
 refine call0 New_ok rfl ?_
 rintro y H' ⟨rfl, rfl⟩
 refine ⟨.inl rfl, le_ok rfl, ?_⟩
 simp [Ptr, WO, RO, wrap_u64n]
 refine callH [32, 33] (WUint_ok [] (u64n (l.length : Int)) (u64n_lt _) (by simp)) (by simp [Ptr, I]) (by simp [WO, RO]) (by simp) (by simp) (by simp) ?_
 rintro y H' ⟨rfl, rfl⟩
 refine ⟨.inl (by simp), le_ok rfl, ?_⟩
 simp [WO, RO, Ptr, uB_eq]
 obtain ⟨F, hF⟩ : ∃ F : Nat → List UInt8, F = fun i => uB (l.length : Int) ++ brsB (l.take i) := ⟨_, rfl⟩
 have hF0 : uB (l.length : Int) = F 0 := by rw [hF]; simp [brsB]
 have hFl : ∀ i, (F i).length ≤ 400000000 := by
  intro i
  have hfl := flat_take braB l i
  rw [hF]; simp only [List.length_append]; unfold brsB at *; omega
 rw [hF0]
 refine eloop (α := Nat) (fun i => i ≤ l.length) (fun i => l.length - i)
  (fun i => [Bs pre, xA, xA, xA, xA, Ptr 0, xA, xA, xA, xA, xA, xA, xA, xA, xA, xA, xA, BRL l, I .i64 l.length, I .i64 i, xA, xA, xA, xA, xA, xA, xA, xA, xA, xA, xA, xA, xA, xA, xA, xA, xA, xA, xA, xA, xA, xA, xA, xA, xA, xA, xA, xA, xA, xA, xA, xA, xA, xA, xA, xA, xA, xA, .any]) (fun i => [some (WO 1 (F i)), some (RO (F i))]) 0 [32, 112]
  (Nat.zero_le _) (by simp [Ptr, I, Bs, BRL]) (by simp [WO, RO]) (by simp) (by simp) (by simp) ?_
 intro i hi
 have hX := hFl i
 simp [Ptr, I, Bs, BRL, WO, RO]
 refine alt (fun hlt => ?_) (fun hlt => ?_)
 ·have hln : i < l.length := by omega
  obtain ⟨b, hcx⟩ : ∃ b, l[i]? = some b := ⟨l[i], by simp [hln]⟩
  have hge : (brav l)[i]'(by simpa using hln) = braF b := gE (brav_get hcx)
  have hb := hl b (List.mgE hcx)
  obtain ⟨b1, b2, b3, b4, b5⟩ := id hb
  have l0 := bc_len b2
  have f0 := bf_len b2
  have tk := bc_take b2
  have lk : List.take 32 (braC b).tail = hc b.lock := by have := bc_lock b2; simpa using this
  have e0 := idx_of (bc_0 b) (by omega)
  have e33 := idx_of (bc_33 b2) (by omega)
  have e34 := idx_of (bc_34 b2) (by omega)
  have w1 := wS (i := i) (by omega)
  have hfs := flat_take_s braB hcx
  have hbl : (braB b).length = (uB (b.keys.length : Int)).length + ((usB b.keys).length + (32 + ((uB b.af).length + (uB b.ol).length))) := by simp [braB, b2]
  have hXb : (F i).length + (braB b).length ≤ 400000000 := by
   rw [hF]; simp only [List.length_append]; unfold brsB at *; omega
  have hFs : F (i + 1) = F i ++ braB b := by rw [hF]; simp [take_s hcx, brsB_snoc]
  simp [hln, hge, braF_fz, l0, f0, tk, e0, wrap_u64n]
  refine callH [0, 1] (WUint_ok (F i) (u64n (b.keys.length : Int)) (u64n_lt _) (by omega)) (by simp [Ptr, I]) (by simp [WO, RO]) (by simp) (by simp) (by simp) ?_
  rintro y H' ⟨rfl, rfl⟩
  refine ⟨.inl (by simp), le_ok rfl, ?_⟩
  obtain ⟨G, hG⟩ : ∃ G : Nat → List UInt8, G = fun j => F i ++ uB (b.keys.length : Int) ++ usB (b.keys.take j) := ⟨_, rfl⟩
  have hG0 : F i ++ uB (b.keys.length : Int) = G 0 := by rw [hG]; simp [usB]
  have hGl : ∀ j, (G j).length + 32 + (uB b.af).length + (uB b.ol).length ≤ 400000000 := by
   intro j
   have hfk := flat_take uB b.keys j
   rw [hG]; simp only [List.length_append]; unfold usB at *; omega
  simp only [uB_eq, hG0]
  simp [WO, RO, Ptr, l0, e0, drop34z]
  refine eloop (α := Nat) (fun j => j ≤ b.keys.length) (fun j => b.keys.length - j)
   (fun j => [Bs pre, xA, xA, xA, xA, Ptr 0, xA, Ptr 2, xA, xA, xA, xA, xA, xA, xA, xA, xA, BRL l, I .i64 l.length, I .i64 i, xA, xA, xA, xA, xA, xA, xA, xA, xA, xA, IL b.keys, I .i64 b.keys.length, I .i64 j, xA, xA, xA, xA, xA, xA, xA, xA, xA, xA, xA, xA, xA, xA, xA, xA, xA, xA, xA, xA, xA, xA, xA, xA, xA, .any])
   (fun j => [some (WO 1 (G j)), some (RO (G j)), some (.box 169 (braC b))]) 0 [0, 162, 50]
   (Nat.zero_le _) (by simp [Ptr, I, Bs, BRL, IL]) (by simp [WO, RO]) (by simp) (by simp) (by simp) ?_
  intro j hj
  have hY := hGl j
  simp [Ptr, I, Bs, BRL, IL, WO, RO]
  refine alt (fun hlt2 => ?_) (fun hlt2 => ?_)
  ·have hjn : j < b.keys.length := by omega
   obtain ⟨k, hc2⟩ : ∃ k, b.keys[j]? = some k := ⟨b.keys[j], by simp [hjn]⟩
   have hcb2 := intv_get hc2
   have w3 : IntKind.i64.wrap ((j : Int) + 1) = ((j + 1 : Nat) : Int) := wrap_i64 (by omega) (by omega)
   have hGs : G (j + 1) = G j ++ uB k := by rw [hG]; simp [take_s hc2, usB_snoc]
   simp [hcb2, wrap_u64n]
   refine callH [0, 1] (WUint_ok (G j) (u64n k) (u64n_lt _) (by omega)) (by simp [Ptr, I]) (by simp [WO, RO]) (by simp) (by simp) (by simp) ?_
   rintro y H' ⟨rfl, rfl⟩
   refine ⟨.inl (by simp), le_ok rfl, ?_⟩
   simp only [uB_eq, ← hGs]
   simp [WO, RO, Ptr, w3, -Int.natCast_add]
   exact round (j + 1) [0, 115, 2] (by omega) (by omega) (by simp [Ptr, I, Bs, BRL, IL]) (by simp [WO, RO]) (by simp) (by simp) (by simp)
  have hjl : j = b.keys.length := by omega
  subst hjl
  simp [l0, lk, e33, e34, iC, wrap_u64n]
  refine callH [0, 1] (WHash_ok (G b.keys.length) b.lock (by omega) b2) (by simp [Ptr, Ag, lk]) (by simp [WO, RO]) (by simp) (by simp [lk]) (by simp) ?_
  rintro y H' ⟨rfl, rfl⟩
  refine ⟨.inl (by simp), le_ok rfl, ?_⟩
  simp [WO, RO, Ptr, l0, lk, e33, e34, iC, wrap_u64n]
  refine callH [0, 67] (WUint_ok (G b.keys.length ++ b.lock) (u64n b.af) (u64n_lt _) (by simp; omega)) (by simp [Ptr, I]) (by simp [WO, RO]) (by simp) (by simp) (by simp) ?_
  rintro y H' ⟨rfl, rfl⟩
  refine ⟨.inl (by simp), le_ok rfl, ?_⟩
  simp only [uB_eq]
  simp [WO, RO, Ptr, l0, lk, e33, e34, iC, wrap_u64n]
  refine callH [0, 131] (WUint_ok (G b.keys.length ++ b.lock ++ uB b.af) (u64n b.ol) (u64n_lt _) (by simp; omega)) (by simp [Ptr, I]) (by simp [WO, RO]) (by simp) (by simp) (by simp) ?_
  rintro y H' ⟨rfl, rfl⟩
  refine ⟨.inl (by simp), le_ok rfl, ?_⟩
  have hGe : G b.keys.length ++ b.lock ++ uB b.af ++ uB b.ol = F (i + 1) := by rw [hFs, hG]; simp [braB]
  simp only [uB_eq, hGe]
  simp [WO, RO, Ptr, w1, -Int.natCast_add]
  exact round (i + 1) [0, 195] (by omega) (by omega) (by simp [Ptr, I, Bs, BRL]) (by simp [WO, RO]) (by simp) (by simp) (by simp)
 have hil : i = l.length := by omega
 subst hil
 have hXc : cndB l = F l.length := by rw [hF]; simp [cndB]
 simp
 refine callH [0, 1] (WDone_ok (F l.length) (by omega)) (by simp [Ptr]) (by simp [WO, RO]) (by simp) (by simp) (by simp) ?_
 rintro y H' ⟨rfl, rfl⟩
 refine ⟨.inl (by simp), le_ok rfl, ?_⟩
 simp [WO, RO, R]
 refine call0 (Concat_ok pre (F l.length) (by omega) (by omega) (by rw [← hXc, hc0]; simp [uB, uintB]; omega)) (by simp [two2]) ?_
 rintro y H' ⟨rfl, rfl⟩
 refine ⟨.inl (by simp), le_ok rfl, ?_⟩
 simp [R, RO]
 exact fin [82] (by decide) rfl rfl rfl ⟨by simp [hXc], by simp [hXc]⟩
def yl8y : UL | _ => [xQ 8 19 (.cnv .u64 (.t 18)), ⟨0, (some 11), none, (.call 82 []), [1, 2, 3, 5, 6, 7, 8]⟩, ⟨4, (some 15), none, (.call 84 [.t 11, .t 14]), [5, 6, 7, 8]⟩, xO 9 20 (.call 84 [.t 15, .t 19]), xM 10 5 20]
def yl8z : UL | _ => xF 1 12 0 2 :: xL 2 13 12 :: xQ 3 14 (.cnv .u64 (.t 13)) :: xF 5 16 1 2 :: xL 6 17 16 :: xE 7 18 17 :: hid yl8y
def yl92 : UL | _ => [xI 0 26 35 22 24, xD 1 27 35 26, xQ 2 7 (.alloc 151 (zU8 ++ [xZ, xZ, xS])), xN 3 (.fz (.sto 35 (.t 7) (.t 27)))]
def yl93 : UL | _ => [xD 15 43 35 7, ⟨4, (some 32), none, (.call 85 [.t 28, .t 31]), [5, 6, 7, 8, 10, 11, 12, 14, 15]⟩, ⟨9, (some 37), none, (.call 84 [.t 32, .t 36]), [10, 11, 12, 14, 15]⟩, ⟨13, (some 41), none, (.call 84 [.t 37, .t 40]), [14, 15]⟩, xO 16 44 (.clo (.t 42) [.t 43]), xO 17 45 (.call 111 [.t 41, .t 44])]
def yl94 : UL | _ => xL 7 35 34 :: xQ 8 36 (.cnv .u64 (.t 35)) :: xF 10 38 33 7 :: xL 11 39 38 :: xQ 12 40 (.cnv .u64 (.t 39)) :: xM 14 42 1 :: hid yl93
def yl95 : UL | _ => xM 0 28 5 :: xF 1 29 0 7 :: xF 2 30 0 29 :: xD 3 31 32 30 :: xF 5 33 0 7 :: xF 6 34 32 33 :: hid yl94
def yb98 : UB | _ => .seq (reg0 [xb 0 25 .lss 24 23] 1) (.seq (.cond (.t 25) .skip (.exit 0)) (.seq (.block 1 (.seq (reg0 (hid yl92) 4) (reg1 (hid yl95) 18))) (reg0 [xc 0 46 .add 24 1, xM 1 24 46] 2)))
def yl99 : UL | _ => [xO 6 53 (.call 86 [.t 52]), xM 7 8 53]
def yl9a : UL | _ => xM 0 47 5 :: xF 1 48 2 2 :: xL 2 49 48 :: xE 3 50 49 :: xQ 4 51 (.cnv .u64 (.t 50)) :: xO 5 52 (.call 84 [.t 47, .t 51]) :: hid yl99
def yl9d : UL | _ => [xI 0 59 2 55 57, xD 1 60 2 59, xQ 2 10 (.alloc 100 [xZ, xS]), xN 3 (.fz (.sto 2 (.t 10) (.t 60)))]
def yl9e : UL | _ => [⟨1, (some 62), none, (.call 82 []), [0, 2, 3, 4, 8, 9]⟩, ⟨5, (some 66), none, (.call 84 [.t 62, .t 65]), [0, 8, 9]⟩, ⟨6, (some 67), none, (.call 86 [.t 66]), [0, 8, 9]⟩, ⟨7, (some 68), none, (.app 5 1 1 (.t 61) (.t 67)), [8, 9]⟩, xO 10 71 (.call 112 [.t 68, .t 70]), xM 11 8 71]
def yl9f : UL | _ => xM 0 61 8 :: xF 2 63 0 10 :: xL 3 64 63 :: xQ 4 65 (.cnv .u64 (.t 64)) :: xF 8 69 1 10 :: xD 9 70 1 69 :: hid yl9e
def yb9i : UB | _ => .seq (reg0 [xb 0 58 .lss 57 56] 1) (.seq (.cond (.t 58) .skip (.exit 2)) (.seq (.block 3 (.seq (reg0 (hid yl9d) 4) (reg1 (hid yl9f) 12))) (reg0 [xc 0 72 .add 57 1, xM 1 57 72] 2)))
def yb9k : UB | _ => .seq (.seq (reg0 [xF 0 54 2 2, xL 1 55 54, xE 2 56 55, xC 3 57 0] 4) (.block 2 (.loop (hid yb9i)))) (.seq (reg0 [xM 0 73 8, xM 1 4 73] 2) .ret)
def yb9l : UB | _ => .seq (.seq (reg0 [xF 0 21 1 2, xL 1 22 21, xE 2 23 22, xC 3 24 0] 4) (.block 0 (.loop (hid yb98)))) (.seq (reg0 (hid yl9a) 8) (hid yb9k))
def yb9m : UB | _ => .seq (reg0 [xW 0 2 85 0, xQ 1 4 (.mov (.k xS))] 2) (.seq (reg1 (hid yl8z) 11) (hid yb9l))
attribute [simp] yl8y yl8z yl92 yl93 yl94 yl95 yb98 yl99 yl9a yl9d yl9e yl9f yb9i yb9k yb9l yb9m
def c_TPut : EB × List QOp × Nat := ((hid yb9m), [(.mov (.t 4))], 74)
theorem k_TPut : cfun Tryz.prog 62 = some c_TPut := by kernel_rfl
def yl9o : UL | _ => [xD 0 3 3 1, xO 1 4 (.call 62 [.t 3, (.k (.func (.func 89) #[] #[]))]), xM 2 2 4]
def yb9p : UB | _ => .seq (reg0 [xW 0 1 85 0, xQ 1 2 (.mov (.k xS))] 2) (.seq (reg0 (hid yl9o) 3) .ret)
attribute [simp] yl9o yb9p
def c_TEncode : EB × List QOp × Nat := ((hid yb9p), [(.mov (.t 2))], 5)
theorem k_TEncode : cfun Tryz.prog 39 = some c_TEncode := by kernel_rfl
def yb9s : UB | _ => .seq (reg0 [xW 0 1 151 0, xQ 1 2 (.mov (.k xS))] 2) (.seq (reg0 [xF 0 3 34 1, xL 1 4 3, xM 2 2 4] 3) .ret)
attribute [simp] yb9s
def c_InShown : EB × List QOp × Nat := ((hid yb9s), [(.mov (.t 2))], 5)
theorem k_InShown : cfun Tryz.prog 89 = some c_InShown := by kernel_rfl
def inpB (x : Inp) : List UInt8 := x.tx ++ (uB x.n ++ (uB x.br ++ bytesB x.sec))
def oupB (o : Outp) : List UInt8 := uB o.am ++ cndB o.cs
def insB (l : List Inp) : List UInt8 := l.flatMap inpB
def ousB (l : List Outp) : List UInt8 := l.flatMap oupB
def hdB (t : Txn) : List UInt8 := uB t.lk ++ uB (t.ins.length : Int)
def mdB (t : Txn) : List UInt8 := hdB t ++ insB t.ins ++ uB (t.outs.length : Int)
def encT (t : Txn) : List UInt8 := mdB t ++ ousB t.outs
theorem insB_snoc (l : List Inp) (x : Inp) : insB (l ++ [x]) = insB l ++ inpB x := by simp [insB]
theorem ousB_snoc (l : List Outp) (x : Outp) : ousB (l ++ [x]) = ousB l ++ oupB x := by simp [ousB]
def INL (l : List Inp) : EV := .v (.c (.fz (.sl 35 (inpv l))))
def OUL (l : List Outp) : EV := .v (.c (.fz (.sl 2 (outv l))))
theorem InShown_body : bodyOK Tryz.prog 89 = true := by kernel_rfl
theorem InShown_ok (x : Inp) (h : x.ok) : ECalls Tryz.prog 89 [.v (.agg (inpC x))] [] fun y H' => H' = [] ∧ y = Bs x.sec := by
 obtain ⟨h1, _, _, h4⟩ := h
 have l0 := ic_len h1
 have e34 := idx_of (ic_34 h1) (by omega)
 refine ecalls k_InShown ?_
 simp [c_InShown, l0, e34]
 exact fin0
theorem drop35h (a b c : EC) : List.drop 35 (hc hz ++ [a, b, c]) = [] := by rw [List.drop_eq_nil_iff]; simp [hz]
theorem TPutF_ok (f : FuncId) (t : Txn) (ht : t.ok) (hbf : bodyOK Tryz.prog f = true) (hff : ∀ x ∈ t.ins, ECalls Tryz.prog f [.v (.agg (inpC x))] [] fun y H' => H' = [] ∧ y = Bs x.sec) (hsec : ∀ x ∈ t.ins, x.sec.length ≤ 10000000) (hs : (encT t).length ≤ 400000000) : ECalls Tryz.prog 62 [TXv t, .v (.c (.clo f []))] [] fun y H' => H' = [] ∧ y = Bs (encT t) := by
 obtain ⟨t1, t2, t3, t4, t5⟩ := id ht
 have hlen : (encT t).length = (uB t.lk).length + (uB (t.ins.length : Int)).length + (insB t.ins).length + (uB (t.outs.length : Int)).length + (ousB t.outs).length := by simp [encT, mdB, hdB]; try omega
 refine ecalls k_TPut ?_
 simp [c_TPut, TXv, txC, iC]
 refine call0 New_ok rfl ?_
 rintro y H' ⟨rfl, rfl⟩
 refine ⟨.inl rfl, le_ok rfl, ?_⟩
 simp [Ptr, WO, RO, wrap_u64n]
 refine callH [32, 33] (WUint_ok [] (u64n t.lk) (u64n_lt _) (by simp)) (by simp [Ptr, I]) (by simp [WO, RO]) (by simp) (by simp) (by simp) ?_
 rintro y H' ⟨rfl, rfl⟩
 refine ⟨.inl (by simp), le_ok rfl, ?_⟩
 simp only [uB_eq, List.nil_append]
 simp [WO, RO, Ptr, wrap_u64n]
 refine callH [32, 96] (WUint_ok (uB t.lk) (u64n (t.ins.length : Int)) (u64n_lt _) (by omega)) (by simp [Ptr, I]) (by simp [WO, RO]) (by simp) (by simp) (by simp) ?_
 rintro y H' ⟨rfl, rfl⟩
 refine ⟨.inl (by simp), le_ok rfl, ?_⟩
 obtain ⟨F, hF⟩ : ∃ F : Nat → List UInt8, F = fun i => hdB t ++ insB (t.ins.take i) := ⟨_, rfl⟩
 have hF0 : uB t.lk ++ uB (t.ins.length : Int) = F 0 := by rw [hF]; simp [insB, hdB]
 have hFl : ∀ i, (F i).length ≤ 400000000 := by
  intro i
  have hfl := flat_take inpB t.ins i
  rw [hF]; simp only [List.length_append, hdB]; unfold insB at *; omega
 simp only [uB_eq, hF0]
 simp [WO, RO, Ptr]
 refine eloop (α := Nat) (fun i => i ≤ t.ins.length) (fun i => t.ins.length - i)
  (fun i => [xA, .v (.c (.clo f [])), Ptr 0, xA, xA, Ptr 1, xA, xA, xA, xA, xA, xA, xA, xA, xA, xA, xA, xA, xA, xA, xA, xA, INL t.ins, I .i64 t.ins.length, I .i64 i, xA, xA, xA, xA, xA, xA, xA, xA, xA, xA, xA, xA, xA, xA, xA, xA, xA, xA, xA, xA, xA, xA, xA, xA, xA, xA, xA, xA, xA, xA, xA, xA, xA, xA, xA, xA, xA, xA, xA, xA, xA, xA, xA, xA, xA, xA, xA, xA, .any]) (fun i => [some (.box 85 (txC t)), some (WO 2 (F i)), some (RO (F i))]) 0 [0, 32, 176]
  (Nat.zero_le _) (by simp [Ptr, I, INL]) (by simp [WO, RO, txC, iC]) (by simp) (by simp) (by simp) ?_
 intro i hi
 have hX := hFl i
 simp [Ptr, I, INL, WO, RO, txC, iC]
 refine alt (fun hlt => ?_) (fun hlt => ?_)
 ·have hln : i < t.ins.length := by omega
  obtain ⟨x, hcx⟩ : ∃ x, t.ins[i]? = some x := ⟨t.ins[i], by simp [hln]⟩
  have hge : (inpv t.ins)[i]'(by simpa using hln) = inpF x := gE (inpv_get hcx)
  have hx := t2 x (List.mgE hcx)
  obtain ⟨x1, x2, x3, x4⟩ := id hx
  have x5 := hsec x (List.mgE hcx)
  have l0 := ic_len x1
  have f0 := if_len x1
  have tk := ic_take x1
  have th := ic_hash x1
  have e32 := idx_of (ic_32 x1) (by omega)
  have e33 := idx_of (ic_33 x1) (by omega)
  have w1 := wS (i := i) (by omega)
  have hfs := flat_take_s inpB hcx
  have hbl : (inpB x).length = 32 + ((uB x.n).length + ((uB x.br).length + (bytesB x.sec).length)) := by simp [inpB, x1]
  have hXb : (F i).length + (inpB x).length ≤ 400000000 := by
   rw [hF]; simp only [List.length_append, hdB]; unfold insB at *; omega
  have hFs : F (i + 1) = F i ++ inpB x := by rw [hF]; simp [take_s hcx, insB_snoc]
  simp [hln, hge, inpF_fz, l0, f0, tk, th, e32, e33, wrap_u64n, drop35h, iC, WO, RO, Ptr]
  refine callH [1, 2] (WHash_ok (F i) x.tx (by omega) x1) (by simp [Ptr, Ag]) (by simp [WO, RO]) (by simp) (by simp) (by simp) ?_
  rintro y H' ⟨rfl, rfl⟩
  refine ⟨.inl (by simp), le_ok rfl, ?_⟩
  simp [hln, hge, inpF_fz, l0, f0, tk, th, e32, e33, wrap_u64n, drop35h, iC, WO, RO, Ptr]
  refine callH [1, 147] (WUint_ok (F i ++ x.tx) (u64n x.n) (u64n_lt _) (by simp; omega)) (by simp [Ptr, I]) (by simp [WO, RO]) (by simp) (by simp) (by simp) ?_
  rintro y H' ⟨rfl, rfl⟩
  refine ⟨.inl (by simp), le_ok rfl, ?_⟩
  simp only [uB_eq]
  simp [hln, hge, inpF_fz, l0, f0, tk, th, e32, e33, wrap_u64n, drop35h, iC, WO, RO, Ptr]
  refine callH [1, 227] (WUint_ok (F i ++ x.tx ++ uB x.n) (u64n x.br) (u64n_lt _) (by simp; omega)) (by simp [Ptr, I]) (by simp [WO, RO]) (by simp) (by simp) (by simp) ?_
  rintro y H' ⟨rfl, rfl⟩
  refine ⟨.inl (by simp), le_ok rfl, ?_⟩
  simp only [uB_eq]
  simp [hln, hge, inpF_fz, l0, f0, tk, th, e32, e33, wrap_u64n, drop35h, iC, WO, RO, Ptr]
  refine ⟨hbf, ?_⟩
  refine call0 (hff x (List.mgE hcx)) (by simp [hln, hge, inpF_fz, l0, f0, tk, th, e32, e33, wrap_u64n, drop35h, iC, WO, RO, Ptr]) ?_
  rintro y H' ⟨rfl, rfl⟩
  refine ⟨.inl (by simp [Bs]), le_ok rfl, ?_⟩
  simp [hln, hge, inpF_fz, l0, f0, tk, th, e32, e33, wrap_u64n, drop35h, iC, WO, RO, Ptr, Bs]
  refine callH [1, 291] (WBytes_ok (F i ++ x.tx ++ uB x.n ++ uB x.br) x.sec (by simp; omega) (by omega)) (by simp [Ptr, Bs]) (by simp [WO, RO]) (by simp) (by simp) (by simp) ?_
  rintro y H' ⟨rfl, rfl⟩
  refine ⟨.inl (by simp), le_ok rfl, ?_⟩
  have hGe : F i ++ x.tx ++ uB x.n ++ uB x.br ++ bytesB x.sec = F (i + 1) := by rw [hFs]; simp [inpB]
  simp only [hGe]
  simp [WO, RO, Ptr, w1, -Int.natCast_add]
  exact round (i + 1) [0, 1, 355] (by omega) (by omega) (by simp [Ptr, I, INL]) (by simp [WO, RO, txC, iC]) (by simp) (by simp) (by simp)
 have hil : i = t.ins.length := by omega
 subst hil
 have hFe : F t.ins.length = hdB t ++ insB t.ins := by rw [hF]; simp
 simp [wrap_u64n]
 refine callH [1, 2] (WUint_ok (F t.ins.length) (u64n (t.outs.length : Int)) (u64n_lt _) (by omega)) (by simp [Ptr, I]) (by simp [WO, RO]) (by simp) (by simp) (by simp) ?_
 rintro y H' ⟨rfl, rfl⟩
 refine ⟨.inl (by simp), le_ok rfl, ?_⟩
 obtain ⟨K, hK⟩ : ∃ K : Nat → List UInt8, K = fun i => mdB t ++ ousB (t.outs.take i) := ⟨_, rfl⟩
 have hK0 : F t.ins.length ++ uB (t.outs.length : Int) = K 0 := by rw [hK, hFe]; simp [ousB, mdB]
 have hKl : ∀ i, (K i).length ≤ 400000000 := by
  intro i
  have hfl := flat_take oupB t.outs i
  rw [hK]; simp only [List.length_append, hdB, mdB]; unfold ousB at *; omega
 simp only [uB_eq, hK0]
 simp [WO, RO, Ptr]
 have hK00 := hKl 0
 refine callH [1, 99] (WDone_ok (K 0) (by omega)) (by simp [Ptr]) (by simp [WO, RO]) (by simp) (by simp) (by simp) ?_
 rintro y H' ⟨rfl, rfl⟩
 refine ⟨.inl (by simp), le_ok rfl, ?_⟩
 simp [WO, RO, Ptr, R]
 refine eloop (α := Nat) (fun i => i ≤ t.outs.length) (fun i => t.outs.length - i)
  (fun i => [xA, xA, xA, xA, xA, xA, xA, xA, R 0 (K i), xA, xA, xA, xA, xA, xA, xA, xA, xA, xA, xA, xA, xA, xA, xA, xA, xA, xA, xA, xA, xA, xA, xA, xA, xA, xA, xA, xA, xA, xA, xA, xA, xA, xA, xA, xA, xA, xA, xA, xA, xA, xA, xA, xA, xA, xA, OUL t.outs, I .i64 t.outs.length, I .i64 i, xA, xA, xA, xA, xA, xA, xA, xA, xA, xA, xA, xA, xA, xA, xA, .any]) (fun i => [some (RO (K i))]) 0 [115]
  (Nat.zero_le _) (by simp [R, I, OUL]) (by simp [RO]) (by simp) (by simp) (by simp) ?_
 intro i hi
 have hX := hKl i
 simp [R, I, OUL, RO]
 refine alt (fun hlt => ?_) (fun hlt => ?_)
 ·have hln : i < t.outs.length := by omega
  obtain ⟨x, hcx⟩ : ∃ x, t.outs[i]? = some x := ⟨t.outs[i], by simp [hln]⟩
  have hge : (outv t.outs)[i]'(by simpa using hln) = outF x := gE (outv_get hcx)
  obtain ⟨x1, x2, x3⟩ := t3 x (List.mgE hcx)
  have w1 := wS (i := i) (by omega)
  have hfs := flat_take_s oupB hcx
  have hbl : (oupB x).length = (uB x.am).length + (cndB x.cs).length := by simp [oupB]
  have hXb : (K i).length + (oupB x).length ≤ 400000000 := by
   rw [hK]; simp only [List.length_append, hdB, mdB]; unfold ousB at *; omega
  have hKs : K (i + 1) = K i ++ oupB x := by rw [hK]; simp [take_s hcx, ousB_snoc]
  simp [hln, hge, outF, iF]
  refine call0 New_ok rfl ?_
  rintro y H' ⟨rfl, rfl⟩
  refine ⟨.inl rfl, le_ok rfl, ?_⟩
  simp [Ptr, WO, RO, wrap_u64n]
  refine callH [97, 98] (WUint_ok [] (u64n x.am) (u64n_lt _) (by simp)) (by simp [Ptr, I]) (by simp [WO, RO]) (by simp) (by simp) (by simp) ?_
  rintro y H' ⟨rfl, rfl⟩
  refine ⟨.inl (by simp), le_ok rfl, ?_⟩
  simp only [uB_eq, List.nil_append]
  simp [Ptr, WO, RO, wrap_u64n]
  have hua := uB_len x.am
  refine callH [97, 161] (WDone_ok (uB x.am) (by omega)) (by simp [Ptr]) (by simp [WO, RO]) (by simp) (by simp) (by simp) ?_
  rintro y H' ⟨rfl, rfl⟩
  refine ⟨.inl (by simp), le_ok rfl, ?_⟩
  simp [WO, RO, Ptr, R, bsv_app]
  refine ⟨⟨by omega, by omega⟩, ?_⟩
  refine call0 (CPut_ok (K i ++ uB x.am) x.cs x2 x3 (by simp; omega)) (by simp [CNv, Bs, List.tkL]) ?_
  rintro y H' ⟨rfl, rfl⟩
  refine ⟨.inr ⟨rfl, by simp [RO, bsv, cb]⟩, le_ok rfl, ?_⟩
  have hGe : K i ++ uB x.am ++ cndB x.cs = K (i + 1) := by rw [hKs]; simp [oupB]
  simp only [hGe]
  simp [R, RO, w1, -Int.natCast_add]
  exact round (i + 1) [241] (by omega) (by omega) (by simp [R, I, OUL]) (by simp [RO]) (by simp) (by simp) (by simp)
 have hil : i = t.outs.length := by omega
 subst hil
 have hKe : K t.outs.length = encT t := by rw [hK]; simp [encT]
 simp
 refine finW _ (weak_frz (o := 0) (ty := 5) (es := 1) (xs := bsv (K t.outs.length)) rfl) ?_
 exact fin [] (by decide) rfl rfl rfl ⟨rfl, by simp [Bs, hKe, List.tkL]⟩
theorem TPut_ok (t : Txn) (ht : t.ok) (hsec : ∀ x ∈ t.ins, x.sec.length ≤ 10000000) (hs : (encT t).length ≤ 400000000) : ECalls Tryz.prog 62 [TXv t, .v (.c (.clo 89 []))] [] fun y H' => H' = [] ∧ y = Bs (encT t) :=
 TPutF_ok _ t ht InShown_body (fun x hx => InShown_ok x (ht.2.1 x hx)) hsec hs
theorem TEncode_ok (t : Txn) (ht : t.ok) (hsec : ∀ x ∈ t.ins, x.sec.length ≤ 10000000) (hs : (encT t).length ≤ 400000000) : ECalls Tryz.prog 39 [TXv t] [] fun y H' => H' = [] ∧ y = Bs (encT t) := by
 refine ecalls k_TEncode ?_
 simp [c_TEncode, TXv, txC, iC]
 refine call0 (TPut_ok t ht hsec hs) (by simp [TXv, txC, iC]) ?_
 rintro y H' ⟨rfl, rfl⟩
 refine ⟨.inl (by simp [Bs]), le_ok rfl, ?_⟩
 simp [Bs]
 exact fin0
end Go.Proofs.YtddcceahaigodaaGreatDoor
