import Derived.Test.YtejjhgdnmknejaaGreatDoorAll8
import Derived.Test.YtejjhgdnmknejaaGreatDoorAll17
import Derived.Test.YtejjhgdnmknejaaGreatDoorAll16
import Derived.Test.YtejjhgdnmknejaaGreatDoorAll12
set_option maxHeartbeats 64000000
namespace Go.Proofs.YtejjhgdnmknejaaGreatDoor
open Go Go.EW
set_option linter.unusedSimpArgs false
set_option linter.unusedVariables false
def ylu8 : UL | _ => [xG 6 13 10 true (.bin .leq (.t 11) (.t 12)), xR 7 14 10 13, xM 8 6 14]
def ylu9 : UL | _ => xM 0 7 0 :: xM 1 8 1 :: xb 2 9 .geq 7 8 :: xM 3 10 9 :: yM 4 11 10 true 0 :: yM 5 12 10 true 2 :: hid ylu8
def ybua : UB | _ => .seq (reg0 [xQ 0 6 (.mov (.k (.bool false)))] 1) (.seq (reg0 (hid ylu9) 9) .ret)
attribute [simp] ylu8 ylu9 ybua
def c_within : EB × List QOp × Nat := ((hid ybua), [(.mov (.t 6))], 15)
theorem k_within : cfun Tryz.prog 157 = some c_within := by kernel_rfl
def yluc : UL | _ => [xM 24 2 26]
def ylud : UL | _ => xM 18 21 20 :: yF 19 22 21 true 4 1 :: xG 20 23 21 true (.lda 32 (.t 22)) :: xG 21 24 21 true (.build zU8 []) :: xG 22 25 21 true (.eqa true 32 .u8 (.t 23) (.t 24)) :: xR 23 26 21 25 :: hid yluc
def ylue : UL | _ => xR 12 15 11 14 :: xM 13 16 15 :: yF 14 17 16 true 3 1 :: yL 15 18 16 true 17 :: ⟨16, (some 19), (some (16, true)), (.call 157 [.t 18, (xK 0), (xK 1099511627776)]), []⟩ :: xR 17 20 16 19 :: hid ylud
def yluf : UL | _ => ⟨6, (some 9), (some (6, true)), (.call 157 [.t 8, (xK 0), (xK 1)]), []⟩ :: xR 7 10 6 9 :: xM 8 11 10 :: yF 9 12 11 true 2 1 :: yL 10 13 11 true 12 :: ⟨11, (some 14), (some (11, true)), (.call 157 [.t 13, (xK 10), (xK 1125899906842624)]), []⟩ :: hid ylue
def ylug : UL | _ => xF 0 3 0 1 :: xL 1 4 3 :: xO 2 5 (.call 157 [.t 4, (xK 0), (xK 4294967296)]) :: xM 3 6 5 :: yF 4 7 6 true 1 1 :: yL 5 8 6 true 7 :: hid yluf
def ybuh : UB | _ => .seq (reg0 [xW 0 1 128 0, xQ 1 2 (.mov (.k (.bool false)))] 2) (.seq (reg0 (hid ylug) 25) .ret)
attribute [simp] yluc ylud ylue yluf ylug ybuh
def c_RpayMay : EB × List QOp × Nat := ((hid ybuh), [(.mov (.t 2))], 27)
theorem k_RpayMay : cfun Tryz.prog 195 = some c_RpayMay := by kernel_rfl
def ylul : UL | _ => [xP 24 35 18 34]
def ylum : UL | _ => yL 18 29 21 true 28 :: yM 19 30 21 true 3 :: xG 20 31 21 true (.isl 1 (.t 29) (.t 30)) :: yL 21 32 21 true 31 :: xG 22 33 21 true (.bin .geq (.t 27) (.t 32)) :: xG 23 34 18 false (.pick (.t 21) (.t 33) (.k (.bool false))) :: hid ylul
def ylun : UL | _ => yL 12 23 21 true 22 :: yM 13 24 21 true 3 :: xG 14 25 21 true (.bin .sub (.t 24) (xK 1)) :: xG 15 26 21 true (.isl 1 (.t 23) (.t 25)) :: yL 16 27 21 true 26 :: yF 17 28 21 true 2 1 :: hid ylum
def yluo : UL | _ => xQ 6 17 (.un .not (.t 16)) :: xM 7 18 17 :: yM 8 19 18 false 3 :: xG 9 20 18 false (.bin .gtr (.t 19) (xK 0)) :: yM 10 21 18 false 20 :: yF 11 22 21 true 2 1 :: hid ylun
def ylup : UL | _ => xF 0 11 2 1 :: xL 1 12 11 :: xM 2 13 3 :: xI 3 14 1 12 13 :: xL 4 15 14 :: xO 5 16 (.call 157 [.t 15, (xK 0), (xK 15)]) :: hid yluo
def ybut : UB | _ => .seq (.seq (reg0 [xM 0 4 3, xF 1 5 2 1, xL 2 6 5, xE 3 7 6, xb 4 8 .lss 4 7] 5) (.cond (.t 8) .skip (.exit 0))) (.seq (.block 1 (.seq (reg0 (hid ylup) 25) (.cond (.t 35) (.seq (reg0 [xQ 0 2 (.mov (.k (.bool false)))] 1) .ret) .skip))) (reg0 [xM 0 9 3, xc 1 10 .add 9 1, xM 2 3 10] 3))
def yluv : UL | _ => [xG 12 48 44 true (.bin .gtr (.t 47) (xK 0)), xR 13 49 44 48, xM 14 2 49]
def yluw : UL | _ => ⟨6, (some 42), (some (39, true)), (.call 157 [.t 41, (xK 10), (xK 1125899906842624)]), []⟩ :: xR 7 43 39 42 :: xM 8 44 43 :: yF 9 45 44 true 2 1 :: yL 10 46 44 true 45 :: xG 11 47 44 true (.len (.t 46)) :: hid yluv
def ylux : UL | _ => xF 0 36 0 1 :: xL 1 37 36 :: xO 2 38 (.call 157 [.t 37, (xK 0), (xK 4294967296)]) :: xM 3 39 38 :: yF 4 40 39 true 1 1 :: yL 5 41 39 true 40 :: hid yluw
def ybuy : UB | _ => .seq (reg0 [xW 0 1 120 0, xQ 1 2 (.mov (.k (.bool false)))] 2) (.seq (.seq (reg0 [xC 0 3 0] 1) (.block 0 (.loop (hid ybut)))) (.seq (reg0 (hid ylux) 15) .ret))
attribute [simp] ylul ylum ylun yluo ylup ybut yluv yluw ylux ybuy
def c_RholdMay : EB × List QOp × Nat := ((hid ybuy), [(.mov (.t 2))], 50)
theorem k_RholdMay : cfun Tryz.prog 94 = some c_RholdMay := by kernel_rfl
def ylv0 : UL | _ => [xG 36 41 35 false (.len (.t 40)), xG 37 42 35 false (.bin .add (.t 38) (.t 41)), xG 38 43 35 false (.bin .gtr (.t 42) (xK 8)), xP 39 44 35 43]
def ylv1 : UL | _ => xM 30 35 34 :: yF 31 36 35 false 3 1 :: yL 32 37 35 false 36 :: xG 33 38 35 false (.len (.t 37)) :: yF 34 39 35 false 4 1 :: yL 35 40 35 false 39 :: hid ylv0
def ylv2 : UL | _ => xM 24 29 28 :: yF 25 30 29 false 4 1 :: yL 26 31 29 false 30 :: xG 27 32 29 false (.len (.t 31)) :: xG 28 33 29 false (.bin .gtr (.t 32) (xK 8)) :: xP 29 34 29 33 :: hid ylv1
def ylv3 : UL | _ => xM 18 23 22 :: yF 19 24 23 false 3 1 :: yL 20 25 23 false 24 :: xG 21 26 23 false (.len (.t 25)) :: xG 22 27 23 false (.bin .gtr (.t 26) (xK 8)) :: xP 23 28 23 27 :: hid ylv2
def ylv4 : UL | _ => yF 12 17 16 false 1 1 :: xG 13 18 16 false (.iad 2 1 (.t 17) (xK 1)) :: yL 14 19 16 false 18 :: ⟨15, (some 20), (some (16, false)), (.call 157 [.t 19, (xK 0), (xK 1125899906842624)]), []⟩ :: xG 16 21 16 false (.un .not (.t 20)) :: xP 17 22 16 21 :: hid ylv3
def ylv5 : UL | _ => xG 6 11 9 false (.iad 2 1 (.t 10) (xK 0)) :: yL 7 12 9 false 11 :: ⟨8, (some 13), (some (9, false)), (.call 157 [.t 12, (xK 0), (xK 1125899906842624)]), []⟩ :: xG 9 14 9 false (.un .not (.t 13)) :: xP 10 15 9 14 :: xM 11 16 15 :: hid ylv4
def ylv6 : UL | _ => xF 0 5 0 1 :: xL 1 6 5 :: xO 2 7 (.call 157 [.t 6, (xK 0), (xK 1099511627776)]) :: xQ 3 8 (.un .not (.t 7)) :: xM 4 9 8 :: yF 5 10 9 false 1 1 :: hid ylv5
def ylva : UL | _ => [xM 0 45 3, xF 1 46 3 1, xL 2 47 46, xE 3 48 47, xb 4 49 .lss 45 48]
def ylvb : UL | _ => [xG 24 76 62 true (.bin .leq (.t 68) (.t 75)), xG 25 77 59 false (.pick (.t 62) (.t 76) (.k (.bool false))), xP 26 78 59 77]
def ylvc : UL | _ => yL 18 70 62 true 69 :: yM 19 71 62 true 3 :: xG 20 72 62 true (.bin .sub (.t 71) (xK 1)) :: xG 21 73 62 true (.isl 36 (.t 70) (.t 72)) :: yF 22 74 62 true 0 73 :: yL 23 75 62 true 74 :: hid ylvb
def ylvd : UL | _ => yL 12 64 62 true 63 :: yM 13 65 62 true 3 :: xG 14 66 62 true (.isl 36 (.t 64) (.t 65)) :: yF 15 67 62 true 0 66 :: yL 16 68 62 true 67 :: yF 17 69 62 true 3 1 :: hid ylvc
def ylve : UL | _ => xQ 6 58 (.un .not (.t 57)) :: xM 7 59 58 :: yM 8 60 59 false 3 :: xG 9 61 59 false (.bin .gtr (.t 60) (xK 0)) :: yM 10 62 59 false 61 :: yF 11 63 62 true 3 1 :: hid ylvd
def ylvf : UL | _ => xF 0 52 3 1 :: xL 1 53 52 :: xM 2 54 3 :: xI 3 55 36 53 54 :: xD 4 56 36 55 :: xO 5 57 (.call 195 [.t 56]) :: hid ylve
def ylvl : UL | _ => [xM 0 79 4, xF 1 80 4 1, xL 2 81 80, xE 3 82 81, xb 4 83 .lss 79 82]
def ylvm : UL | _ => [xG 24 110 96 true (.bin .leq (.t 102) (.t 109)), xG 25 111 93 false (.pick (.t 96) (.t 110) (.k (.bool false))), xP 26 112 93 111]
def ylvn : UL | _ => yL 18 104 96 true 103 :: yM 19 105 96 true 4 :: xG 20 106 96 true (.bin .sub (.t 105) (xK 1)) :: xG 21 107 96 true (.isl 3 (.t 104) (.t 106)) :: yF 22 108 96 true 0 107 :: yL 23 109 96 true 108 :: hid ylvm
def ylvo : UL | _ => yL 12 98 96 true 97 :: yM 13 99 96 true 4 :: xG 14 100 96 true (.isl 3 (.t 98) (.t 99)) :: yF 15 101 96 true 0 100 :: yL 16 102 96 true 101 :: yF 17 103 96 true 4 1 :: hid ylvn
def ylvp : UL | _ => xQ 6 92 (.un .not (.t 91)) :: xM 7 93 92 :: yM 8 94 93 false 4 :: xG 9 95 93 false (.bin .gtr (.t 94) (xK 0)) :: yM 10 96 93 false 95 :: yF 11 97 96 true 4 1 :: hid ylvo
def ylvq : UL | _ => xF 0 86 4 1 :: xL 1 87 86 :: xM 2 88 4 :: xI 3 89 3 87 88 :: xD 4 90 3 89 :: xO 5 91 (.call 94 [.t 90]) :: hid ylvp
def ybvu : UB | _ => .seq (.seq (reg0 (hid ylvl) 5) (.cond (.t 83) .skip (.exit 2))) (.seq (.block 3 (.seq (reg0 (hid ylvq) 27) (.cond (.t 112) (.seq (reg0 [xC 0 2 1] 1) .ret) .skip))) (reg0 [xM 0 84 4, xc 1 85 .add 84 1, xM 2 4 85] 3))
def ylvv : UL | _ => [xD 0 113 5 1, xO 1 114 (.call 196 [.t 113]), xc 2 115 .gtr 114 1125899906842624]
def ybvz : UB | _ => .seq (.seq (reg0 [xC 0 4 0] 1) (.block 2 (.loop (hid ybvu)))) (.seq (.seq (reg0 (hid ylvv) 3) (.cond (.t 115) (.seq (reg0 [xC 0 2 1] 1) .ret) .skip)) (.seq (reg0 [xC 0 2 0] 1) .ret))
def ybw0 : UB | _ => .seq (.seq (reg0 [xC 0 3 0] 1) (.block 0 (.loop (.seq (.seq (reg0 (hid ylva) 5) (.cond (.t 49) .skip (.exit 0))) (.seq (.block 1 (.seq (reg0 (hid ylvf) 27) (.cond (.t 78) (.seq (reg0 [xC 0 2 1] 1) .ret) .skip))) (reg0 [xM 0 50 3, xc 1 51 .add 50 1, xM 2 3 51] 3)))))) (hid ybvz)
def ybw1 : UB | _ => .seq (reg0 [xW 0 1 35 0, xC 1 2 0] 2) (.seq (.seq (reg0 (hid ylv6) 40) (.cond (.t 44) (.seq (reg0 [xC 0 2 1] 1) .ret) .skip)) (hid ybw0))
attribute [simp] ylv0 ylv1 ylv2 ylv3 ylv4 ylv5 ylv6 ylva ylvb ylvc ylvd ylve ylvf ylvl ylvm ylvn ylvo ylvp ylvq ybvu ylvv ybvz ybw0 ybw1
def c_RCheck : EB × List QOp × Nat := ((hid ybw1), [(.mov (.t 2))], 116)
theorem k_RCheck : cfun Tryz.prog 156 = some c_RCheck := by kernel_rfl
def ylw3 : UL | _ => [xb 6 12 .add 8 11, xM 7 3 12]
def ylw4 : UL | _ => xF 0 6 1 1 :: xQ 1 7 (.iad 2 1 (.t 6) (xK 0)) :: xL 2 8 7 :: xF 3 9 1 1 :: xQ 4 10 (.iad 2 1 (.t 9) (xK 1)) :: xL 5 11 10 :: hid ylw3
def ylw6 : UL | _ => [xM 0 13 4, xF 1 14 3 1, xL 2 15 14, xE 3 16 15, xb 4 17 .lss 13 16]
def ylw7 : UL | _ => [xL 6 26 25, xb 7 27 .add 20 26, xM 8 3 27]
def ylw8 : UL | _ => xM 0 20 3 :: xF 1 21 3 1 :: xL 2 22 21 :: xM 3 23 4 :: xI 4 24 36 22 23 :: xF 5 25 2 24 :: hid ylw7
def ylwc : UL | _ => [xM 0 28 5, xF 1 29 4 1, xL 2 30 29, xE 3 31 30, xb 4 32 .lss 28 31]
def ylwd : UL | _ => [xL 6 41 40, xb 7 42 .add 35 41, xM 8 3 42]
def ylwe : UL | _ => xM 0 35 3 :: xF 1 36 4 1 :: xL 2 37 36 :: xM 3 38 5 :: xI 4 39 3 37 38 :: xF 5 40 1 39 :: hid ylwd
def ybwi : UB | _ => .seq (.seq (reg0 [xC 0 5 0] 1) (.block 2 (.loop (.seq (.seq (reg0 (hid ylwc) 5) (.cond (.t 32) .skip (.exit 2))) (.seq (.block 3 (reg0 (hid ylwe) 9)) (reg0 [xM 0 33 5, xc 1 34 .add 33 1, xM 2 5 34] 3)))))) (.seq (reg0 [xM 0 43 3, xM 1 2 43] 2) .ret)
def ybwj : UB | _ => .seq (.seq (reg0 [xC 0 4 0] 1) (.block 0 (.loop (.seq (.seq (reg0 (hid ylw6) 5) (.cond (.t 17) .skip (.exit 0))) (.seq (.block 1 (reg0 (hid ylw8) 9)) (reg0 [xM 0 18 4, xc 1 19 .add 18 1, xM 2 4 19] 3)))))) (hid ybwi)
def ybwk : UB | _ => .seq (reg0 [xW 0 1 35 0, xC 1 2 0] 2) (.seq (reg0 (hid ylw4) 8) (hid ybwj))
attribute [simp] ylw3 ylw4 ylw6 ylw7 ylw8 ylwc ylwd ylwe ybwi ybwj ybwk
def c_Rsum : EB × List QOp × Nat := ((hid ybwk), [(.mov (.t 2))], 44)
theorem k_Rsum : cfun Tryz.prog 196 = some c_Rsum := by kernel_rfl
def ybwm : UB | _ => reg0 [xW 0 1 35 0, xQ 1 2 (.mov (.k (.bool false)))] 2
def ylwn : UL | _ => [xG 6 9 6 true (.bin .lss (.t 8) (xK 1099511627776)), xR 7 10 6 9, xM 8 2 10]
def ylwo : UL | _ => xD 0 3 5 1 :: xO 1 4 (.call 156 [.t 3]) :: xc 2 5 .eql 4 0 :: xM 3 6 5 :: yF 4 7 6 true 0 1 :: yL 5 8 6 true 7 :: hid ylwn
def ybwq : UB | _ => reg0 [xW 0 5 35 0, xQ 1 10 (.alloc 35 [xZ, xZ, xZ, xS, xS])] 2
def ylwr : UL | _ => [xb 12 23 .add 21 22, xQ 13 24 (.build [xZ, xZ] [(0, 1, .t 18), (1, 1, .t 23)]), xM 14 25 3, xM 15 26 4, xQ 16 27 (.build [xZ, xZ, xZ, xS, xS] [(0, 1, .t 13), (1, 2, .t 24), (3, 1, .t 25), (4, 1, .t 26)]), xN 17 (.fz (.sto 5 (.t 10) (.t 27)))]
def ylws : UL | _ => xM 6 17 1 :: xb 7 18 .add 16 17 :: xF 8 19 1 5 :: xQ 9 20 (.iad 2 1 (.t 19) (xK 1)) :: xL 10 21 20 :: xM 11 22 2 :: hid ylwr
def ybwu : UB | _ => reg0 [xC 0 4 0, xC 1 5 0] 2
def ybww : UB | _ => reg0 [xM 0 6 0, xc 1 7 .eql 6 0] 2
def ybwy : UB | _ => reg0 [xM 0 8 1, xM 1 4 8, xC 2 5 0] 3
def ybx0 : UB | _ => reg0 [xM 0 9 1, xC 1 4 0, xM 2 5 9] 3
def ybx6 : UB | _ => .seq (reg0 [xW 0 1 35 0, xC 1 2 0] 2) (.seq (.seq (reg0 [xD 0 3 5 1, xO 1 4 (.call 156 [.t 3]), xc 2 5 .neq 4 0] 3) (.cond (.t 5) (.seq (reg0 [xC 0 2 0] 1) .ret) .skip)) (.seq (reg0 [xD 0 6 5 1, xO 1 7 (.call 196 [.t 6]), xM 2 2 7] 3) .ret))
attribute [simp] ybwm ylwn ylwo ybwq ylwr ylws ybwu ybww ybwy ybx0 ybx6
def c_RTotal : EB × List QOp × Nat := ((hid ybx6), [(.mov (.t 2))], 8)
theorem k_RTotal : cfun Tryz.prog 172 = some c_RTotal := by kernel_rfl
theorem within_ok (n lo hi : Int) : ECalls Tryz.prog 157 [I .i64 n, I .i64 lo, I .i64 hi] [] fun y H' => H' = [] ∧ y = .lit (.bool (decide (lo ≤ n ∧ n ≤ hi))) := by
 refine ecalls k_within ?_
 simp [c_within, I]
 by_cases h : lo ≤ n
 ·simp [h]
  exact fin0
 ·simp [h]
  exact fin0
theorem RpayMay_ok (p : Pay) (hp : p.lock.length = 32) : ECalls Tryz.prog 195 [.v (.agg (payC p))] [] fun y H' => H' = [] ∧ y = .lit (.bool (mayP p)) := by
 have ht : p.lock.take 32 = p.lock := List.tkL (by omega)
 refine ecalls k_RpayMay ?_
 simp [c_RpayMay, payC, I, ht]
 refine call0 (within_ok p.id 0 4294967296) (by simp [Ptr, I, EV.lit]) ?_
 rintro y H' ⟨rfl, rfl⟩
 cases h1 : decide (0 ≤ p.id ∧ p.id ≤ 4294967296)
 ·have h1 := of_decide_eq_false h1
  simp [Ptr, I, EV.lit]
  exact fin [] (by decide) rfl rfl rfl ⟨rfl, by rw [show mayP p = false from decide_eq_false (by omega)]⟩
 have h1 := of_decide_eq_true h1
 simp [Ptr, I, EV.lit]
 refine call0 (within_ok p.fr 0 1) (by simp [Ptr, I, EV.lit]) ?_
 rintro y H' ⟨rfl, rfl⟩
 cases h2 : decide (0 ≤ p.fr ∧ p.fr ≤ 1)
 ·have h2 := of_decide_eq_false h2
  simp [Ptr, I, EV.lit]
  exact fin [] (by decide) rfl rfl rfl ⟨rfl, by rw [show mayP p = false from decide_eq_false (by omega)]⟩
 have h2 := of_decide_eq_true h2
 simp [Ptr, I, EV.lit]
 refine call0 (within_ok p.am 10 1125899906842624) (by simp [Ptr, I, EV.lit]) ?_
 rintro y H' ⟨rfl, rfl⟩
 cases h3 : decide (10 ≤ p.am ∧ p.am ≤ 1125899906842624)
 ·have h3 := of_decide_eq_false h3
  simp [Ptr, I, EV.lit]
  exact fin [] (by decide) rfl rfl rfl ⟨rfl, by rw [show mayP p = false from decide_eq_false (by omega)]⟩
 have h3 := of_decide_eq_true h3
 simp [Ptr, I, EV.lit]
 refine call0 (within_ok p.af 0 1099511627776) (by simp [I]) ?_
 rintro y H' ⟨rfl, rfl⟩
 cases h4 : decide (0 ≤ p.af ∧ p.af ≤ 1099511627776)
 ·have h4 := of_decide_eq_false h4
  simp [EV.lit]
  exact fin [] (by decide) rfl rfl rfl ⟨rfl, by rw [show mayP p = false from decide_eq_false (by omega)]⟩
 have h4 := of_decide_eq_true h4
 simp [EV.lit, hp, ht]
 have hm : mayP p = !decide (p.lock = hz) := by
  by_cases e : p.lock = hz
  ·rw [show mayP p = false from decide_eq_false (fun h => h.2.2.2.2.2.2.2 e)]; simp [e]
  ·rw [show mayP p = true from decide_eq_true ⟨by omega, by omega, by omega, by omega, by omega, by omega, by omega, e⟩]; simp [e]
 exact fin [] (by decide) rfl rfl rfl ⟨rfl, by rw [hm]⟩
def prevK (l : List Int) (i : Nat) : Int := if i = 0 then -1 else (l[i - 1]?).getD 0
theorem RholdMay_ok (h : Hol) (hk : h.keys.length ≤ 100000000) : ECalls Tryz.prog 94 [.v (.agg (holC h))] [] fun y H' => H' = [] ∧ y = .lit (.bool (mayH h)) := by
 refine ecalls k_RholdMay ?_
 simp [c_RholdMay, holC]
 refine eloop (α := Nat) (fun i => i ≤ h.keys.length ∧ keysS (-1) h.keys = keysS (prevK h.keys i) (h.keys.drop i) ∧ -1 ≤ prevK h.keys i) (fun i => h.keys.length - i)
  (fun i => [xA, Ptr 0, xA, I .i64 i, xA, xA, xA, xA, xA, xA, xA, xA, xA, xA, xA, xA, xA, xA, xA, xA, xA, xA, xA, xA, xA, xA, xA, xA, xA, xA, xA, xA, xA, xA, xA, xA, xA, xA, xA, xA, xA, xA, xA, xA, xA, xA, xA, xA, xA, .any]) (fun i => [some (.box 120 (holC h))]) 0 [0]
  ⟨by simp, by simp [prevK], by simp [prevK]⟩ (by simp [Ptr, I]) (by simp [holC]) (by simp) (by simp) (by simp) ?_
 rintro i ⟨hi1, hi2, hi3⟩
 simp [Ptr, I, holC] at hi1 hi2 hi3 ⊢
 refine alt (fun hlt => ?_) (fun hlt => ?_)
 ·obtain ⟨k, hc⟩ : ∃ k, h.keys[i]? = some k := ⟨h.keys[i], by simp [hlt]⟩
  have hcb := intv_get hc
  rw [drop_cons hc] at hi2
  have w1 := wS (i := i) (by omega)
  have w3 : IntKind.i64.wrap ((i : Int) - 1) = (i : Int) - 1 := wrap_i64 (by omega) (by omega)
  have hbad : ¬ (prevK h.keys i < k ∧ k < 16) → mayH h = false := fun q => by simp only [mayH, hi2, keysS, decide_eq_false q, Bool.false_and]
  have hnk : prevK h.keys (i + 1) = k := by simp [prevK, hc]
  have hgood : prevK h.keys i < k → k < 16 → keysS (-1) h.keys = keysS (prevK h.keys (i + 1)) (h.keys.drop (i + 1)) := fun q1 q2 => by rw [hi2, keysS, decide_eq_true ⟨q1, q2⟩, Bool.true_and, hnk]
  simp [hcb]
  refine call0 (within_ok k 0 15) (by simp [I]) ?_
  rintro y H' ⟨rfl, rfl⟩
  cases b1 : decide (0 ≤ k ∧ k ≤ 15)
  ·have b1 := of_decide_eq_false b1
   simp [EV.lit]
   exact fin [] (by decide) rfl rfl rfl ⟨rfl, by rw [hbad (by omega)]⟩
  have b1 := of_decide_eq_true b1
  simp [EV.lit]
  refine alt (fun h0 => ?_) (fun h0 => ?_)
  ·obtain ⟨q, hq⟩ : ∃ q, h.keys[i - 1]? = some q := ⟨h.keys[i - 1]'(by omega), by simp⟩
   have hqb := intv_get hq
   have hti : ((i : Int) - 1).toNat = i - 1 := by omega
   have hpv : prevK h.keys i = q := by simp [prevK, hq, show i ≠ 0 by omega]
   have h1 : (1 : Int) ≤ (i : Int) := by omega
   simp [h0, w3, hqb, hti, h1, hcb]
   refine alt (fun c1 => ?_) (fun c1 => ?_)
   ·simp
    exact fin [] (by decide) rfl rfl rfl ⟨rfl, by rw [hbad (by omega)]⟩
   simp [w1, -Int.natCast_add]
   exact round (i + 1) [0] ⟨by omega, hgood (by omega) (by omega), by omega⟩ (by omega) (by simp) (by simp) (by simp) (by simp) (by simp)
  ·have hi0 : i = 0 := by omega
   subst hi0
   have hp0 : prevK h.keys 0 = -1 := by simp [prevK]
   simp [IntKind.wrap_i64]
   exact round 1 [0] ⟨by omega, hgood (by omega) (by omega), by simp at hnk; omega⟩ (by omega) (by simp) (by simp) (by simp) (by simp) (by simp)
 ·have hd : h.keys.drop i = [] := by rw [List.drop_eq_nil_iff]; omega
  have hks : keysS (-1) h.keys = true := by rw [hi2, hd]; rfl
  simp
  refine call0 (within_ok h.id 0 4294967296) (by simp [Ptr, I, EV.lit]) ?_
  rintro y H' ⟨rfl, rfl⟩
  cases c1 : decide (0 ≤ h.id ∧ h.id ≤ 4294967296)
  ·have c1 := of_decide_eq_false c1
   simp [Ptr, I, EV.lit]
   exact fin [] (by decide) rfl rfl rfl ⟨rfl, by rw [mayH_f (by omega)]⟩
  have c1 := of_decide_eq_true c1
  simp [Ptr, I, EV.lit]
  refine call0 (within_ok h.am 10 1125899906842624) (by simp [Ptr, I, EV.lit]) ?_
  rintro y H' ⟨rfl, rfl⟩
  cases c2 : decide (10 ≤ h.am ∧ h.am ≤ 1125899906842624)
  ·have c2 := of_decide_eq_false c2
   simp [Ptr, I, EV.lit]
   exact fin [] (by decide) rfl rfl rfl ⟨rfl, by rw [mayH_f (by omega)]⟩
  have c2 := of_decide_eq_true c2
  simp [Ptr, I, EV.lit]
  by_cases q : 1 ≤ h.keys.length
  ·have hm : mayH h = true := by
    simp only [mayH, hks, Bool.true_and]
    exact decide_eq_true ⟨by omega, by omega, by omega, by omega, q⟩
   exact fin [] (by decide) rfl rfl rfl ⟨rfl, litB (by rw [hm]; exact decide_eq_true (by omega))⟩
  ·exact fin [] (by decide) rfl rfl rfl ⟨rfl, litB (by rw [mayH_f (by omega)]; exact decide_eq_false (by omega))⟩
theorem Rsum_ok (s : Sta) (hs : s.ok) (hr : 0 ≤ s.h0 ∧ s.h0 ≤ 1125899906842624 ∧ 0 ≤ s.h1 ∧ s.h1 ≤ 1125899906842624 ∧ s.pays.length ≤ 8 ∧ s.holds.length + s.pays.length ≤ 8) (hp : payL none s.pays = true) (hh : holL none s.holds = true) : ECalls Tryz.prog 196 [SV s] [] fun y H' => H' = [] ∧ y = I .i64 (total s) := by
 obtain ⟨ok1, ok2, ok3, ok4, ok5, ok6, ok7⟩ := id hs
 have w1 : IntKind.i64.wrap (s.h0 + s.h1) = s.h0 + s.h1 := wrap_i64 (by omega) (by omega)
 refine ecalls k_Rsum ?_
 simp [c_Rsum, SV, staC, w1]
 refine eloop (α := Nat × Int) (fun a => a.1 ≤ s.pays.length ∧ a.2 = s.h0 + s.h1 + sumP (s.pays.take a.1) ∧ 0 ≤ a.2 ∧ a.2 ≤ 2251799813685248 + (a.1 : Int) * 1125899906842624) (fun a => s.pays.length - a.1)
  (fun a => [xA, Ptr 0, xA, I .i64 a.2, I .i64 a.1, xA, xA, xA, xA, xA, xA, xA, xA, xA, xA, xA, xA, xA, xA, xA, xA, xA, xA, xA, xA, xA, xA, xA, xA, xA, xA, xA, xA, xA, xA, xA, xA, xA, xA, xA, xA, xA, xA, .any]) (fun a => [some (.box 35 (staC s))]) (0, s.h0 + s.h1) [0]
  ⟨by simp, by simp [sumP], by simp; omega, by simp; omega⟩ (by simp [Ptr, I, PL]) (by simp [staC]) (by simp) (by simp) (by simp) ?_
 rintro ⟨i, n⟩ ⟨hi1, hi3, hi4, hi5⟩
 simp [Ptr, I, PL, staC] at hi1 hi3 hi4 hi5 ⊢
 refine alt (fun hlt => ?_) (fun hlt => ?_)
 ·obtain ⟨p, hc⟩ : ∃ p, s.pays[i]? = some p := ⟨s.pays[i], by simp [hlt]⟩
  have hcb := payv_get hc
  have ham := payL_am hp p (List.mgE hc)
  have w2 := wS (i := i) (by omega)
  have w4 : IntKind.i64.wrap (n + p.am) = n + p.am := wrap_i64 (by omega) (by omega)
  simp [hcb, payF, w2, w4, -Int.natCast_add]
  exact round (i + 1, n + p.am) [0] ⟨by omega, by rw [take_s hc, sumP_snoc]; omega, by simp; omega, by simp; omega⟩ (by simp; omega) (by simp) (by simp) (by simp) (by simp) (by simp)
 have hil : i = s.pays.length := by omega
 subst hil
 rw [List.take_length] at hi3
 simp
 refine eloop (α := Nat × Int) (fun a => a.1 ≤ s.holds.length ∧ a.2 = s.h0 + s.h1 + sumP s.pays + sumH (s.holds.take a.1) ∧ 0 ≤ a.2 ∧ a.2 ≤ 22517998136852480 + (a.1 : Int) * 1125899906842624) (fun a => s.holds.length - a.1)
  (fun a => [xA, Ptr 0, xA, I .i64 a.2, xA, I .i64 a.1, xA, xA, xA, xA, xA, xA, xA, xA, xA, xA, xA, xA, xA, xA, xA, xA, xA, xA, xA, xA, xA, xA, xA, xA, xA, xA, xA, xA, xA, xA, xA, xA, xA, xA, xA, xA, xA, .any]) (fun a => [some (.box 35 (staC s))]) (0, n) [0]
  ⟨by simp, by simp [sumH]; omega, hi4, by simp; omega⟩ (by simp [Ptr, I, HL]) (by simp [staC]) (by simp) (by simp) (by simp) ?_
 clear hi1 hi3 hi4 hi5 hlt
 clear n
 rintro ⟨i, n⟩ ⟨hi1, hi3, hi4, hi5⟩
 simp [Ptr, I, HL, staC] at hi1 hi3 hi4 hi5 ⊢
 refine alt (fun hlt => ?_) (fun hlt => ?_)
 ·obtain ⟨p, hc⟩ : ∃ p, s.holds[i]? = some p := ⟨s.holds[i], by simp [hlt]⟩
  have hcb := holv_get hc
  have ham := holL_am hh p (List.mgE hc)
  have w2 := wS (i := i) (by omega)
  have w4 : IntKind.i64.wrap (n + p.am) = n + p.am := wrap_i64 (by omega) (by omega)
  simp [hcb, holF, w2, w4, -Int.natCast_add]
  exact round (i + 1, n + p.am) [0] ⟨by omega, by rw [take_s hc, sumH_snoc]; omega, by simp; omega, by simp; omega⟩ (by simp; omega) (by simp) (by simp) (by simp) (by simp) (by simp)
 have hil : i = s.holds.length := by omega
 subst hil
 rw [List.take_length] at hi3
 simp
 exact fin [] (by decide) rfl rfl rfl ⟨rfl, by rw [hi3]; rfl⟩
def chkS (s : Sta) : Int := if mayS s = true then 0 else 1
theorem chk_f {s : Sta} (h : mayS s = false) : chkS s = 1 := by simp [chkS, h]
theorem RCheck_ok (s : Sta) (hs : s.ok) : ECalls Tryz.prog 156 [SV s] [] fun y H' => H' = [] ∧ y = I .i64 (chkS s) := by
 obtain ⟨ok1, ok2, ok3, ok4, ok5, ok6, ok7⟩ := id hs
 refine ecalls k_RCheck ?_
 simp [c_RCheck, SV, staC]
 refine call0 (within_ok s.num 0 1099511627776) (by simp [Ptr, I, EV.lit]) ?_
 rintro y H' ⟨rfl, rfl⟩
 cases a1 : decide (0 ≤ s.num ∧ s.num ≤ 1099511627776)
 ·have a1 := of_decide_eq_false a1
  simp [Ptr, I, EV.lit]
  exact fin [] (by decide) rfl rfl rfl ⟨rfl, by rw [chk_f (mayS_f (by omega))]⟩
 have a1 := of_decide_eq_true a1
 simp [Ptr, I, EV.lit]
 refine call0 (within_ok s.h0 0 1125899906842624) (by simp [Ptr, I, EV.lit]) ?_
 rintro y H' ⟨rfl, rfl⟩
 cases a2 : decide (0 ≤ s.h0 ∧ s.h0 ≤ 1125899906842624)
 ·have a2 := of_decide_eq_false a2
  simp [Ptr, I, EV.lit]
  exact fin [] (by decide) rfl rfl rfl ⟨rfl, by rw [chk_f (mayS_f (by omega))]⟩
 have a2 := of_decide_eq_true a2
 simp [Ptr, I, EV.lit]
 refine call0 (within_ok s.h1 0 1125899906842624) (by simp [Ptr, I, EV.lit]) ?_
 rintro y H' ⟨rfl, rfl⟩
 cases a3 : decide (0 ≤ s.h1 ∧ s.h1 ≤ 1125899906842624)
 ·have a3 := of_decide_eq_false a3
  simp [Ptr, I, EV.lit]
  exact fin [] (by decide) rfl rfl rfl ⟨rfl, by rw [chk_f (mayS_f (by omega))]⟩
 have a3 := of_decide_eq_true a3
 simp [Ptr, I, EV.lit]
 refine alt (fun a4 => ?_) (fun a4 => ?_)
 rotate_left
 ·(first | simp [Ptr, I, EV.lit, a4, Int.not_le.2 a4] | simp [Ptr, I, EV.lit, a4, Int.not_lt.2 a4] | simp [Ptr, I, EV.lit, a4, Int.not_lt.1 a4] | simp [Ptr, I, EV.lit, a4, Int.not_le.1 a4] | simp [Ptr, I, EV.lit, a4])
  exact fin [] (by decide) rfl rfl rfl ⟨rfl, by rw [chk_f (mayS_f (by omega))]⟩
 (first | simp [Ptr, I, EV.lit, a4, Int.not_le.2 a4] | simp [Ptr, I, EV.lit, a4, Int.not_lt.2 a4] | simp [Ptr, I, EV.lit, a4, Int.not_lt.1 a4] | simp [Ptr, I, EV.lit, a4, Int.not_le.1 a4] | simp [Ptr, I, EV.lit, a4])
 refine alt (fun a5 => ?_) (fun a5 => ?_)
 rotate_left
 ·(first | simp [Ptr, I, EV.lit, a5, Int.not_le.2 a5] | simp [Ptr, I, EV.lit, a5, Int.not_lt.2 a5] | simp [Ptr, I, EV.lit, a5, Int.not_lt.1 a5] | simp [Ptr, I, EV.lit, a5, Int.not_le.1 a5] | simp [Ptr, I, EV.lit, a5])
  exact fin [] (by decide) rfl rfl rfl ⟨rfl, by rw [chk_f (mayS_f (by omega))]⟩
 (first | simp [Ptr, I, EV.lit, a5, Int.not_le.2 a5] | simp [Ptr, I, EV.lit, a5, Int.not_lt.2 a5] | simp [Ptr, I, EV.lit, a5, Int.not_lt.1 a5] | simp [Ptr, I, EV.lit, a5, Int.not_le.1 a5] | simp [Ptr, I, EV.lit, a5])
 have w0 : IntKind.i64.wrap ((s.pays.length : Int) + (s.holds.length : Int)) = (s.pays.length : Int) + (s.holds.length : Int) := wrap_i64 (by omega) (by omega)
 rw [w0]
 refine alt (fun a6 => ?_) (fun a6 => ?_)
 ·simp
  exact fin [] (by decide) rfl rfl rfl ⟨rfl, by rw [chk_f (mayS_f (by omega))]⟩
 simp
 refine eloop (α := Nat) (fun i => i ≤ s.pays.length ∧ payL none s.pays = payL (prevP s.pays i) (s.pays.drop i)) (fun i => s.pays.length - i)
  (fun i => [xA, Ptr 0, xA, I .i64 i, xA, xA, xA, xA, xA, xA, xA, xA, xA, xA, xA, xA, xA, xA, xA, xA, xA, xA, xA, xA, xA, xA, xA, xA, xA, xA, xA, xA, xA, xA, xA, xA, xA, xA, xA, xA, xA, xA, xA, xA, xA, xA, xA, xA, xA, xA, xA, xA, xA, xA, xA, xA, xA, xA, xA, xA, xA, xA, xA, xA, xA, xA, xA, xA, xA, xA, xA, xA, xA, xA, xA, xA, xA, xA, xA, xA, xA, xA, xA, xA, xA, xA, xA, xA, xA, xA, xA, xA, xA, xA, xA, xA, xA, xA, xA, xA, xA, xA, xA, xA, xA, xA, xA, xA, xA, xA, xA, xA, xA, xA, xA, .any]) (fun i => [some (.box 35 (staC s))]) 0 [0]
  ⟨by simp, by simp [prevP]⟩ (by simp [Ptr, I]) (by simp [staC]) (by simp) (by simp) (by simp) ?_
 rintro i ⟨hi1, hi2⟩
 simp [Ptr, I, PL, staC] at hi1 hi2 ⊢
 refine alt (fun hlt => ?_) (fun hlt => ?_)
 ·obtain ⟨p, hc⟩ : ∃ p, s.pays[i]? = some p := ⟨s.pays[i], by simp [hlt]⟩
  have hpo := ok4 p (List.mgE hc)
  have hl32 := hpo.2.2.2.2
  have ht : p.lock.take 32 = p.lock := List.tkL (by omega)
  have hcb := payv_get hc
  rw [drop_cons hc] at hi2
  have w2 := wS (i := i) (by omega)
  have w3 : IntKind.i64.wrap ((i : Int) - 1) = (i : Int) - 1 := wrap_i64 (by omega) (by omega)
  simp [hcb, payF, hl32, ht]
  refine call0 (RpayMay_ok p hl32) (by simp [payC]) ?_
  rintro y H' ⟨rfl, rfl⟩
  refine ⟨.inl (by simp), le_ok rfl, ?_⟩
  cases hm : mayP p
  ·simp [EV.lit]
   exact fin [] (by decide) rfl rfl rfl ⟨rfl, by rw [chk_f (mayS_p (by rw [hi2, payL, hm]; simp))]⟩
  have hnx : ∀ (q : aft (prevP s.pays i) p.id = true), payL none s.pays = payL (prevP s.pays (i + 1)) (s.pays.drop (i + 1)) := by
   intro q
   rw [hi2, payL, hm, q]
   simp [prevP, hc]
  simp [EV.lit]
  refine alt (fun h0 => ?_) (fun h0 => ?_)
  ·obtain ⟨q, hq⟩ : ∃ q, s.pays[i - 1]? = some q := ⟨s.pays[i - 1]'(by omega), by simp⟩
   have hqb := payv_get hq
   have hti : ((i : Int) - 1).toNat = i - 1 := by omega
   have hpv : prevP s.pays i = some q.id := by simp [prevP, hq, show i ≠ 0 by omega]
   have h1 : (1 : Int) ≤ (i : Int) := by omega
   simp [h0, w3, hqb, hti, payF, h1, hcb]
   refine alt (fun c1 => ?_) (fun c1 => ?_)
   ·simp
    exact fin [] (by decide) rfl rfl rfl ⟨rfl, by rw [chk_f (mayS_p (by rw [hi2, payL, hm, hpv]; simp [aft, decide_eq_false (show ¬ q.id < p.id by omega)]))]⟩
   simp [w2, -Int.natCast_add]
   exact round (i + 1) [0] ⟨by omega, hnx (by rw [hpv]; exact decide_eq_true (by omega))⟩ (by omega) (by simp) (by simp) (by simp) (by simp) (by simp)
  ·have hi0 : i = 0 := by omega
   subst hi0
   simp [IntKind.wrap_i64]
   exact round 1 [0] ⟨by omega, hnx (by simp [prevP, aft])⟩ (by omega) (by simp) (by simp) (by simp) (by simp) (by simp)
 have hil : i = s.pays.length := by omega
 subst hil
 have hps : payL none s.pays = true := by rw [hi2]; simp [payL]
 simp
 refine eloop (α := Nat) (fun i => i ≤ s.holds.length ∧ holL none s.holds = holL (prevH s.holds i) (s.holds.drop i)) (fun i => s.holds.length - i)
  (fun i => [xA, Ptr 0, xA, xA, I .i64 i, xA, xA, xA, xA, xA, xA, xA, xA, xA, xA, xA, xA, xA, xA, xA, xA, xA, xA, xA, xA, xA, xA, xA, xA, xA, xA, xA, xA, xA, xA, xA, xA, xA, xA, xA, xA, xA, xA, xA, xA, xA, xA, xA, xA, xA, xA, xA, xA, xA, xA, xA, xA, xA, xA, xA, xA, xA, xA, xA, xA, xA, xA, xA, xA, xA, xA, xA, xA, xA, xA, xA, xA, xA, xA, xA, xA, xA, xA, xA, xA, xA, xA, xA, xA, xA, xA, xA, xA, xA, xA, xA, xA, xA, xA, xA, xA, xA, xA, xA, xA, xA, xA, xA, xA, xA, xA, xA, xA, xA, xA, .any]) (fun i => [some (.box 35 (staC s))]) 0 [0]
  ⟨by simp, by simp [prevH]⟩ (by simp [Ptr, I]) (by simp [staC]) (by simp) (by simp) (by simp) ?_
 clear hi1 hi2 hlt
 rintro i ⟨hi1, hi2⟩
 simp [Ptr, I, HL, staC] at hi1 hi2 ⊢
 refine alt (fun hlt => ?_) (fun hlt => ?_)
 ·obtain ⟨p, hc⟩ : ∃ p, s.holds[i]? = some p := ⟨s.holds[i], by simp [hlt]⟩
  have hpo := ok5 p (List.mgE hc)
  have hcb := holv_get hc
  rw [drop_cons hc] at hi2
  have w2 := wS (i := i) (by omega)
  have w3 : IntKind.i64.wrap ((i : Int) - 1) = (i : Int) - 1 := wrap_i64 (by omega) (by omega)
  simp [hcb, holF]
  refine call0 (RholdMay_ok p hpo.2.2.2) (by simp [holC]) ?_
  rintro y H' ⟨rfl, rfl⟩
  refine ⟨.inl (by simp), le_ok rfl, ?_⟩
  cases hm : mayH p
  ·simp [EV.lit]
   exact fin [] (by decide) rfl rfl rfl ⟨rfl, by rw [chk_f (mayS_h (by rw [hi2, holL, hm]; simp))]⟩
  have hnx : ∀ (q : aft (prevH s.holds i) p.id = true), holL none s.holds = holL (prevH s.holds (i + 1)) (s.holds.drop (i + 1)) := by
   intro q
   rw [hi2, holL, hm, q]
   simp [prevH, hc]
  simp [EV.lit]
  refine alt (fun h0 => ?_) (fun h0 => ?_)
  ·obtain ⟨q, hq⟩ : ∃ q, s.holds[i - 1]? = some q := ⟨s.holds[i - 1]'(by omega), by simp⟩
   have hqb := holv_get hq
   have hti : ((i : Int) - 1).toNat = i - 1 := by omega
   have hpv : prevH s.holds i = some q.id := by simp [prevH, hq, show i ≠ 0 by omega]
   have h1 : (1 : Int) ≤ (i : Int) := by omega
   simp [h0, w3, hqb, hti, holF, h1, hcb]
   refine alt (fun c1 => ?_) (fun c1 => ?_)
   ·simp
    exact fin [] (by decide) rfl rfl rfl ⟨rfl, by rw [chk_f (mayS_h (by rw [hi2, holL, hm, hpv]; simp [aft, decide_eq_false (show ¬ q.id < p.id by omega)]))]⟩
   simp [w2, -Int.natCast_add]
   exact round (i + 1) [0] ⟨by omega, hnx (by rw [hpv]; exact decide_eq_true (by omega))⟩ (by omega) (by simp) (by simp) (by simp) (by simp) (by simp)
  ·have hi0 : i = 0 := by omega
   subst hi0
   simp [IntKind.wrap_i64]
   exact round 1 [0] ⟨by omega, hnx (by simp [prevH, aft])⟩ (by omega) (by simp) (by simp) (by simp) (by simp) (by simp)
 have hil : i = s.holds.length := by omega
 subst hil
 have hhs : holL none s.holds = true := by rw [hi2]; simp [holL]
 simp
 refine call0 (Rsum_ok s hs (by omega) hps hhs) (by simp [SV, staC]) ?_
 rintro y H' ⟨rfl, rfl⟩
 simp [I]
 have hS : mayS s = decide (total s ≤ 1125899906842624) := by
  simp only [mayS, hps, hhs, Bool.and_true]
  rw [decide_eq_true (show 0 ≤ s.num ∧ s.num ≤ 1099511627776 ∧ 0 ≤ s.h0 ∧ s.h0 ≤ 1125899906842624 ∧ 0 ≤ s.h1 ∧ s.h1 ≤ 1125899906842624 ∧ s.pays.length ≤ 8 ∧ s.holds.length + s.pays.length ≤ 8 by omega), Bool.true_and]
 refine alt (fun c => ?_) (fun c => ?_)
 ·simp
  exact fin [] (by decide) rfl rfl rfl ⟨rfl, by rw [chk_f (by rw [hS]; exact decide_eq_false (by omega))]⟩
 ·simp
  exact fin [] (by decide) rfl rfl rfl ⟨rfl, by rw [chkS, if_pos (by rw [hS]; exact decide_eq_true (by omega))]⟩
theorem RTotal_ok (s : Sta) (hs : s.ok) : ECalls Tryz.prog 172 [SV s] [] fun y H' => H' = [] ∧ y = I .i64 (totS s) := by
 refine ecalls k_RTotal ?_
 simp [c_RTotal, SV, staC]
 refine call0 (RCheck_ok s hs) (by simp [SV, staC]) ?_
 rintro y H' ⟨rfl, rfl⟩
 by_cases hm : mayS s = true
 ·obtain ⟨hr, hp, hh, htot⟩ := mayS_t hm
  simp [I, chkS, hm]
  refine call0 (Rsum_ok s hs (by omega) hp hh) (by simp [SV, staC]) ?_
  rintro y H' ⟨rfl, rfl⟩
  simp
  exact fin [] (by decide) rfl rfl rfl ⟨rfl, by simp [totS, hm]⟩
 ·simp [I, chkS, hm]
  exact fin [] (by decide) rfl rfl rfl ⟨rfl, by simp [totS, hm]⟩
def ylx8 : UL | _ => [xM 6 2 8]
def ylx9 : UL | _ => xM 0 3 0 :: xc 1 4 .geq 3 0 :: xM 2 5 4 :: yM 3 6 5 true 0 :: xG 4 7 5 true (.bin .lss (.t 6) (xK 16)) :: xR 5 8 5 7 :: hid ylx8
def ybxa : UB | _ => .seq (reg0 [xQ 0 2 (.mov (.k (.bool false)))] 1) (.seq (reg0 (hid ylx9) 7) .ret)
attribute [simp] ylx8 ylx9 ybxa
def c_BParty : EB × List QOp × Nat := ((hid ybxa), [(.mov (.t 2))], 9)
theorem k_BParty : cfun Tryz.prog 135 = some c_BParty := by kernel_rfl
def ylxc : UL | _ => [xM 6 2 8]
def ylxd : UL | _ => xM 0 3 0 :: xc 1 4 .eql 3 0 :: xM 2 5 4 :: yM 3 6 5 false 0 :: xG 4 7 5 false (.bin .eql (.t 6) (xK 1)) :: xP 5 8 5 7 :: hid ylxc
def ybxe : UB | _ => .seq (reg0 [xQ 0 2 (.mov (.k (.bool false)))] 1) (.seq (reg0 (hid ylxd) 7) .ret)
attribute [simp] ylxc ylxd ybxe
def c_BSide : EB × List QOp × Nat := ((hid ybxe), [(.mov (.t 2))], 9)
theorem k_BSide : cfun Tryz.prog 71 = some c_BSide := by kernel_rfl
def ylxg : UL | _ => [xM 18 24 23, yF 19 25 24 false 37 2, yL 20 26 24 false 25, xG 21 27 24 false (.bin .gtr (.t 26) (xK 1125899906842624)), xP 22 28 24 27, xM 23 5 28]
def ylxh : UL | _ => xP 12 18 14 17 :: xM 13 19 18 :: yF 14 20 19 false 37 2 :: yL 15 21 19 false 20 :: xG 16 22 19 false (.bin .lss (.t 21) (xK 0)) :: xP 17 23 19 22 :: hid ylxg
def ylxi : UL | _ => xG 6 12 9 false (.bin .lss (.t 11) (xK 1)) :: xP 7 13 9 12 :: xM 8 14 13 :: yF 9 15 14 false 36 2 :: yL 10 16 14 false 15 :: xG 11 17 14 false (.bin .gtr (.t 16) (xK 65536)) :: hid ylxh
def ylxj : UL | _ => xD 0 6 5 3 :: xO 1 7 (.call 134 [.t 6]) :: xQ 2 8 (.eqi true (.t 7)) :: xM 3 9 8 :: yF 4 10 9 false 36 2 :: yL 5 11 9 false 10 :: hid ylxi
def ylxl : UL | _ => [yL 18 49 43 false 48, xG 19 50 43 false (.bin .eql (.t 46) (.t 49)), xP 20 51 43 50, xM 21 30 51]
def ylxm : UL | _ => xM 12 43 42 :: yF 13 44 43 false 34 2 :: xG 14 45 43 false (.iad 2 1 (.t 44) (xK 0)) :: yL 15 46 43 false 45 :: yF 16 47 43 false 34 2 :: xG 17 48 43 false (.iad 2 1 (.t 47) (xK 1)) :: hid ylxl
def ylxn : UL | _ => yF 6 37 36 false 34 2 :: xG 7 38 36 false (.iad 2 1 (.t 37) (xK 1)) :: yL 8 39 36 false 38 :: ⟨9, (some 40), (some (36, false)), (.call 135 [.t 39]), []⟩ :: xG 10 41 36 false (.un .not (.t 40)) :: xP 11 42 36 41 :: hid ylxm
def ylxo : UL | _ => xF 0 31 34 2 :: xQ 1 32 (.iad 2 1 (.t 31) (xK 0)) :: xL 2 33 32 :: xO 3 34 (.call 135 [.t 33]) :: xQ 4 35 (.un .not (.t 34)) :: xM 5 36 35 :: hid ylxn
def ylxq : UL | _ => [xD 0 54 5 3, xF 2 56 33 2, xL 3 57 56, ⟨1, (some 55), none, (.call 68 [.t 54]), [2, 3]⟩, xb 4 58 .neq 55 57, xM 5 53 58]
def ylxs : UL | _ => [xM 6 60 66]
def ylxt : UL | _ => xF 0 61 1 3 :: xQ 1 62 (.iad 2 1 (.t 61) (xK 0)) :: xL 2 63 62 :: xF 3 64 37 2 :: xL 4 65 64 :: xb 5 66 .lss 63 65 :: hid ylxs
def ybxw : UB | _ => .seq (reg1 (hid ylxq) 6) (.cond (.t 53) (.seq (reg0 [xQ 0 59 (.mki 132 (xK 20)), xM 1 4 59] 2) .ret) (.seq (reg0 (hid ylxt) 7) (.cond (.t 60) (.seq (reg0 [xQ 0 67 (.mki 132 (xK 26)), xM 1 4 67] 2) .ret) .skip)))
def ybxx : UB | _ => .seq (reg0 (hid ylxo) 22) (.cond (.t 30) (.seq (reg0 [xQ 0 52 (.mki 132 (xK 33)), xM 1 4 52] 2) .ret) (hid ybxw))
def ybxy : UB | _ => .seq (reg0 (hid ylxj) 24) (.cond (.t 5) (.seq (reg0 [xQ 0 29 (.mki 132 (xK 1)), xM 1 4 29] 2) .ret) (hid ybxx))
def yby0 : UB | _ => .seq (.block 0 (hid ybxy)) (.seq (reg0 [xQ 0 4 (.mov (.k .nilIface))] 1) .ret)
def yby1 : UB | _ => .seq (reg0 [xW 0 2 42 0, xW 1 3 49 1, xQ 2 4 (.mov (.k .nilIface))] 3) (hid yby0)
attribute [simp] ylxg ylxh ylxi ylxj ylxl ylxm ylxn ylxo ylxq ylxs ylxt ybxw ybxx ybxy yby0 yby1
def c_BCheck : EB × List QOp × Nat := ((hid yby1), [(.mov (.t 4))], 68)
theorem k_BCheck : cfun Tryz.prog 70 = some c_BCheck := by kernel_rfl
def yly3 : UL | _ => [xM 6 2 8]
def yly4 : UL | _ => xM 0 3 0 :: xc 1 4 .geq 3 0 :: xM 2 5 4 :: yM 3 6 5 true 0 :: xG 4 7 5 true (.bin .lss (.t 6) (xK 16)) :: xR 5 8 5 7 :: hid yly3
def yby5 : UB | _ => .seq (reg0 [xQ 0 2 (.mov (.k (.bool false)))] 1) (.seq (reg0 (hid yly4) 7) .ret)
attribute [simp] yly3 yly4 yby5
def c_RParty : EB × List QOp × Nat := ((hid yby5), [(.mov (.t 2))], 9)
theorem k_RParty : cfun Tryz.prog 171 = some c_RParty := by kernel_rfl
def yly7 : UL | _ => [xM 18 23 22, yF 19 24 23 false 37 2, yL 20 25 23 false 24, xG 21 26 23 false (.bin .gtr (.t 25) (xK 1125899906842624)), xP 22 27 23 26]
def yly8 : UL | _ => xP 12 17 13 16 :: xM 13 18 17 :: yF 14 19 18 false 37 2 :: yL 15 20 18 false 19 :: xG 16 21 18 false (.bin .lss (.t 20) (xK 0)) :: xP 17 22 18 21 :: hid yly7
def yly9 : UL | _ => xG 6 11 8 false (.bin .lss (.t 10) (xK 1)) :: xP 7 12 8 11 :: xM 8 13 12 :: yF 9 14 13 false 36 2 :: yL 10 15 13 false 14 :: xG 11 16 13 false (.bin .gtr (.t 15) (xK 65536)) :: hid yly8
def ylya : UL | _ => xD 0 5 5 3 :: xO 1 6 (.call 156 [.t 5]) :: xc 2 7 .neq 6 0 :: xM 3 8 7 :: yF 4 9 8 false 36 2 :: yL 5 10 8 false 9 :: hid yly9
def ylyd : UL | _ => [yL 18 46 40 false 45, xG 19 47 40 false (.bin .eql (.t 43) (.t 46)), xP 20 48 40 47]
def ylye : UL | _ => xM 12 40 39 :: yF 13 41 40 false 34 2 :: xG 14 42 40 false (.iad 2 1 (.t 41) (xK 0)) :: yL 15 43 40 false 42 :: yF 16 44 40 false 34 2 :: xG 17 45 40 false (.iad 2 1 (.t 44) (xK 1)) :: hid ylyd
def ylyf : UL | _ => yF 6 34 33 false 34 2 :: xG 7 35 33 false (.iad 2 1 (.t 34) (xK 1)) :: yL 8 36 33 false 35 :: ⟨9, (some 37), (some (33, false)), (.call 171 [.t 36]), []⟩ :: xG 10 38 33 false (.un .not (.t 37)) :: xP 11 39 33 38 :: hid ylye
def ylyg : UL | _ => xF 0 28 34 2 :: xQ 1 29 (.iad 2 1 (.t 28) (xK 0)) :: xL 2 30 29 :: xO 3 31 (.call 171 [.t 30]) :: xQ 4 32 (.un .not (.t 31)) :: xM 5 33 32 :: hid ylyf
def ylyj : UL | _ => [xD 0 49 5 3, xF 2 51 33 2, xL 3 52 51, ⟨1, (some 50), none, (.call 172 [.t 49]), [2, 3]⟩, xb 4 53 .neq 50 52]
def ylym : UL | _ => [xF 0 54 37 2, xL 1 55 54, xF 2 56 1 3, xQ 3 57 (.iad 2 1 (.t 56) (xK 0)), xL 4 58 57, xb 5 59 .gtr 55 58]
def ybyq : UB | _ => .seq (.seq (reg1 (hid ylyj) 5) (.cond (.t 53) (.seq (reg0 [xC 0 4 20] 1) .ret) .skip)) (.seq (.seq (reg0 (hid ylym) 6) (.cond (.t 59) (.seq (reg0 [xC 0 4 26] 1) .ret) .skip)) (.seq (reg0 [xC 0 4 0] 1) .ret))
def ybyr : UB | _ => .seq (reg0 [xW 0 2 28 0, xW 1 3 35 1, xC 2 4 0] 3) (.seq (.seq (reg0 (hid ylya) 23) (.cond (.t 27) (.seq (reg0 [xC 0 4 1] 1) .ret) .skip)) (.seq (.seq (reg0 (hid ylyg) 21) (.cond (.t 48) (.seq (reg0 [xC 0 4 33] 1) .ret) .skip)) (hid ybyq)))
attribute [simp] yly7 yly8 yly9 ylya ylyd ylye ylyf ylyg ylyj ylym ybyq ybyr
def c_RBCheck : EB × List QOp × Nat := ((hid ybyr), [(.mov (.t 4))], 60)
theorem k_RBCheck : cfun Tryz.prog 126 = some c_RBCheck := by kernel_rfl
theorem chk_t {s : Sta} (h : mayS s = true) : chkS s = 0 := by simp [chkS, h]
def bldE (p : Prm) (s : Sta) : Nat :=
 if mayS s = false ∨ p.dl < 1 ∨ 65536 < p.dl ∨ p.fe < 0 ∨ 1125899906842624 < p.fe then 1
 else if ¬ (0 ≤ p.k0 ∧ p.k0 < 16) ∨ ¬ (0 ≤ p.k1 ∧ p.k1 < 16) ∨ p.k0 = p.k1 then 33
 else if totS s ≠ p.am then 20 else if s.h0 < p.fe then 26 else 0
@[simp] theorem errV_26b : Value.iface 132 (.int .i64 26) = errV 26 := rfl
@[simp] theorem errV_33b : Value.iface 132 (.int .i64 33) = errV 33 := rfl
@[simp] theorem errV_20b : Value.iface 132 (.int .i64 20) = errV 20 := rfl
@[simp] theorem errV_1b : Value.iface 132 (.int .i64 1) = errV 1 := rfl
theorem BParty_ok (n : Int) : ECalls Tryz.prog 135 [I .i64 n] [] fun y H' => H' = [] ∧ y = .lit (.bool (decide (0 ≤ n ∧ n < 16))) := by
 refine ecalls k_BParty ?_
 simp [c_BParty, I]
 by_cases c1 : 0 ≤ n
 ·by_cases c2 : n < 16
  ·simp [c1, c2]
   exact fin0
  ·simp [c1, c2]
   exact fin0
 ·simp [c1]
  exact fin0
theorem RParty_ok (n : Int) : ECalls Tryz.prog 171 [I .i64 n] [] fun y H' => H' = [] ∧ y = .lit (.bool (decide (0 ≤ n ∧ n < 16))) := by
 refine ecalls k_RParty ?_
 simp [c_RParty, I]
 by_cases c1 : 0 ≤ n
 ·by_cases c2 : n < 16
  ·simp [c1, c2]
   exact fin0
  ·simp [c1, c2]
   exact fin0
 ·simp [c1]
  exact fin0
theorem BSide_ok (n : Int) : ECalls Tryz.prog 71 [I .i64 n] [] fun y H' => H' = [] ∧ y = .lit (.bool (decide (n = 0 ∨ n = 1))) := by
 refine ecalls k_BSide ?_
 simp [c_BSide, I]
 by_cases c1 : n = 0
 ·simp [c1]
  exact fin0
 ·simp [c1]
  exact fin0
theorem BCheck_ok (p : Prm) (s : Sta) (hp : p.ok) (hs : s.ok) : ECalls Tryz.prog 70 [PVv p, SV s] [] fun y H' => H' = [] ∧ y = .lit (errV (bldE p s)) := by
 have h1 := hp.1
 have lp := prmC_len h1
 have tp := pm_take h1
 have e33 := idx_of (pm_at h1 1) (by omega)
 have e34 := idx_of (pm_at h1 2) (by omega)
 have e35 := idx_of (pm_at h1 3) (by omega)
 have e36 := idx_of (pm_at h1 4) (by omega)
 have e37 := idx_of (pm_at h1 5) (by omega)
 refine ecalls k_BCheck ?_
 simp [c_BCheck, PVv, SV, staC, I, iC, lp, tp, e33, e34, e35, e36, e37, w_0, w_1, -errV_0]
 refine call0 (SCheck_ok s hs) (by simp [PVv, SV, staC, I, iC, lp, tp, e33, e34, e35, e36, e37, w_0, w_1, -errV_0]) ?_
 rintro y H' ⟨rfl, rfl⟩
 refine ⟨.inl (by simp [I]), le_ok rfl, ?_⟩
 cases hm : mayS s
 ·rw [show bldE p s = 1 from if_pos (.inl hm)]
  simp [hm, PVv, SV, staC, I, iC, lp, tp, e33, e34, e35, e36, e37, w_0, w_1, -errV_0]
  exact fin0
 simp [hm, PVv, SV, staC, I, iC, lp, tp, e33, e34, e35, e36, e37, w_0, w_1, -errV_0]
 by_cases c1 : p.dl < 1
 ·have d1 : ¬ 1 ≤ p.dl := by omega
  rw [show bldE p s = 1 from if_pos (.inr (.inl c1))]
  simp [c1, d1, PVv, SV, staC, I, iC, lp, tp, e33, e34, e35, e36, e37, w_0, w_1, -errV_0]
  exact fin0
 have d1 : 1 ≤ p.dl := by omega
 by_cases c2 : 65536 < p.dl
 ·have d2 : ¬ p.dl ≤ 65536 := by omega
  rw [show bldE p s = 1 from if_pos (.inr (.inr (.inl c2)))]
  simp [c1, d1, c2, d2, PVv, SV, staC, I, iC, lp, tp, e33, e34, e35, e36, e37, w_0, w_1, -errV_0]
  exact fin0
 have d2 : p.dl ≤ 65536 := by omega
 by_cases c3 : p.fe < 0
 ·have d3 : ¬ 0 ≤ p.fe := by omega
  rw [show bldE p s = 1 from if_pos (.inr (.inr (.inr (.inl c3))))]
  simp [c1, d1, c2, d2, c3, d3, PVv, SV, staC, I, iC, lp, tp, e33, e34, e35, e36, e37, w_0, w_1, -errV_0]
  exact fin0
 have d3 : 0 ≤ p.fe := by omega
 by_cases c4 : 1125899906842624 < p.fe
 ·have d4 : ¬ p.fe ≤ 1125899906842624 := by omega
  rw [show bldE p s = 1 from if_pos (.inr (.inr (.inr (.inr c4))))]
  simp [c1, d1, c2, d2, c3, d3, c4, d4, PVv, SV, staC, I, iC, lp, tp, e33, e34, e35, e36, e37, w_0, w_1, -errV_0]
  exact fin0
 have d4 : p.fe ≤ 1125899906842624 := by omega
 have n1 : ¬ (mayS s = false ∨ p.dl < 1 ∨ 65536 < p.dl ∨ p.fe < 0 ∨ 1125899906842624 < p.fe) := by
  rintro (h | h | h | h | h)
  ·rw [hm] at h; simp at h
  ·exact c1 h
  ·exact c2 h
  ·exact c3 h
  ·exact c4 h
 simp [c1, d1, c2, d2, c3, d3, c4, d4, PVv, SV, staC, I, iC, lp, tp, e33, e34, e35, e36, e37, w_0, w_1, -errV_0]
 refine call0 (BParty_ok p.k0) (by simp [PVv, SV, staC, I, iC, lp, tp, e33, e34, e35, e36, e37, w_0, w_1, -errV_0]) ?_
 rintro y H' ⟨rfl, rfl⟩
 refine ⟨.inl (by simp), le_ok rfl, ?_⟩
 cases c5 : decide (0 ≤ p.k0 ∧ p.k0 < 16)
 ·have c5 := of_decide_eq_false c5
  rw [show bldE p s = 33 by unfold bldE; rw [if_neg n1, if_pos (.inl c5)]]
  simp [PVv, SV, staC, I, iC, lp, tp, e33, e34, e35, e36, e37, w_0, w_1, -errV_0]
  exact fin0
 have c5 := of_decide_eq_true c5
 simp [PVv, SV, staC, I, iC, lp, tp, e33, e34, e35, e36, e37, w_0, w_1, -errV_0]
 refine call0 (BParty_ok p.k1) (by simp [PVv, SV, staC, I, iC, lp, tp, e33, e34, e35, e36, e37, w_0, w_1, -errV_0]) ?_
 rintro y H' ⟨rfl, rfl⟩
 refine ⟨.inl (by simp), le_ok rfl, ?_⟩
 cases c6 : decide (0 ≤ p.k1 ∧ p.k1 < 16)
 ·have c6 := of_decide_eq_false c6
  rw [show bldE p s = 33 by unfold bldE; rw [if_neg n1, if_pos (.inr (.inl c6))]]
  simp [PVv, SV, staC, I, iC, lp, tp, e33, e34, e35, e36, e37, w_0, w_1, -errV_0]
  exact fin0
 have c6 := of_decide_eq_true c6
 simp [PVv, SV, staC, I, iC, lp, tp, e33, e34, e35, e36, e37, w_0, w_1, -errV_0]
 by_cases c7 : p.k0 = p.k1
 ·rw [show bldE p s = 33 by unfold bldE; rw [if_neg n1, if_pos (.inr (.inr c7))]]
  simp [c7, PVv, SV, staC, I, iC, lp, tp, e33, e34, e35, e36, e37, w_0, w_1, -errV_0]
  exact fin0
 have n2 : ¬ (¬ (0 ≤ p.k0 ∧ p.k0 < 16) ∨ ¬ (0 ≤ p.k1 ∧ p.k1 < 16) ∨ p.k0 = p.k1) := by
  rintro (h | h | h)
  ·exact h c5
  ·exact h c6
  ·exact c7 h
 simp [c7, PVv, SV, staC, I, iC, lp, tp, e33, e34, e35, e36, e37, w_0, w_1, -errV_0]
 refine call0 (Total_ok s hs) (by simp [PVv, SV, staC, I, iC, lp, tp, e33, e34, e35, e36, e37, w_0, w_1, -errV_0]) ?_
 rintro y H' ⟨rfl, rfl⟩
 refine ⟨.inl (by simp [I]), le_ok rfl, ?_⟩
 by_cases c8 : totS s = p.am
 rotate_left
 ·rw [show bldE p s = 20 by unfold bldE; rw [if_neg n1, if_neg n2, if_pos c8]]
  simp [c8, PVv, SV, staC, I, iC, lp, tp, e33, e34, e35, e36, e37, w_0, w_1, -errV_0]
  exact fin0
 simp [c8, PVv, SV, staC, I, iC, lp, tp, e33, e34, e35, e36, e37, w_0, w_1, -errV_0]
 by_cases c9 : s.h0 < p.fe
 ·have d9 : ¬ p.fe ≤ s.h0 := by omega
  rw [show bldE p s = 26 by unfold bldE; rw [if_neg n1, if_neg n2, if_neg (by simpa using c8), if_pos c9]]
  simp [c9, d9, PVv, SV, staC, I, iC, lp, tp, e33, e34, e35, e36, e37, w_0, w_1, -errV_0]
  exact fin0
 have d9 : p.fe ≤ s.h0 := by omega
 rw [show bldE p s = 0 by unfold bldE; rw [if_neg n1, if_neg n2, if_neg (by simpa using c8), if_neg c9]]
 simp [c9, d9, PVv, SV, staC, I, iC, lp, tp, e33, e34, e35, e36, e37, w_0, w_1, -errV_0]
 exact fin0
theorem RBCheck_ok (p : Prm) (s : Sta) (hp : p.ok) (hs : s.ok) : ECalls Tryz.prog 126 [PVv p, SV s] [] fun y H' => H' = [] ∧ y = I .i64 (bldE p s) := by
 have h1 := hp.1
 have lp := prmC_len h1
 have tp := pm_take h1
 have e33 := idx_of (pm_at h1 1) (by omega)
 have e34 := idx_of (pm_at h1 2) (by omega)
 have e35 := idx_of (pm_at h1 3) (by omega)
 have e36 := idx_of (pm_at h1 4) (by omega)
 have e37 := idx_of (pm_at h1 5) (by omega)
 refine ecalls k_RBCheck ?_
 simp [c_RBCheck, PVv, SV, staC, I, iC, lp, tp, e33, e34, e35, e36, e37, w_0, w_1, -errV_0]
 refine call0 (RCheck_ok s hs) (by simp [PVv, SV, staC, I, iC, lp, tp, e33, e34, e35, e36, e37, w_0, w_1, -errV_0]) ?_
 rintro y H' ⟨rfl, rfl⟩
 refine ⟨.inl (by simp [I]), le_ok rfl, ?_⟩
 cases hm : mayS s
 ·rw [show bldE p s = 1 from if_pos (.inl hm)]
  simp [chk_f hm, PVv, SV, staC, I, iC, lp, tp, e33, e34, e35, e36, e37, w_0, w_1, -errV_0]
  exact fin0
 simp [chk_t hm, PVv, SV, staC, I, iC, lp, tp, e33, e34, e35, e36, e37, w_0, w_1, -errV_0]
 by_cases c1 : p.dl < 1
 ·have d1 : ¬ 1 ≤ p.dl := by omega
  rw [show bldE p s = 1 from if_pos (.inr (.inl c1))]
  simp [c1, d1, PVv, SV, staC, I, iC, lp, tp, e33, e34, e35, e36, e37, w_0, w_1, -errV_0]
  exact fin0
 have d1 : 1 ≤ p.dl := by omega
 by_cases c2 : 65536 < p.dl
 ·have d2 : ¬ p.dl ≤ 65536 := by omega
  rw [show bldE p s = 1 from if_pos (.inr (.inr (.inl c2)))]
  simp [c1, d1, c2, d2, PVv, SV, staC, I, iC, lp, tp, e33, e34, e35, e36, e37, w_0, w_1, -errV_0]
  exact fin0
 have d2 : p.dl ≤ 65536 := by omega
 by_cases c3 : p.fe < 0
 ·have d3 : ¬ 0 ≤ p.fe := by omega
  rw [show bldE p s = 1 from if_pos (.inr (.inr (.inr (.inl c3))))]
  simp [c1, d1, c2, d2, c3, d3, PVv, SV, staC, I, iC, lp, tp, e33, e34, e35, e36, e37, w_0, w_1, -errV_0]
  exact fin0
 have d3 : 0 ≤ p.fe := by omega
 by_cases c4 : 1125899906842624 < p.fe
 ·have d4 : ¬ p.fe ≤ 1125899906842624 := by omega
  rw [show bldE p s = 1 from if_pos (.inr (.inr (.inr (.inr c4))))]
  simp [c1, d1, c2, d2, c3, d3, c4, d4, PVv, SV, staC, I, iC, lp, tp, e33, e34, e35, e36, e37, w_0, w_1, -errV_0]
  exact fin0
 have d4 : p.fe ≤ 1125899906842624 := by omega
 have n1 : ¬ (mayS s = false ∨ p.dl < 1 ∨ 65536 < p.dl ∨ p.fe < 0 ∨ 1125899906842624 < p.fe) := by
  rintro (h | h | h | h | h)
  ·rw [hm] at h; simp at h
  ·exact c1 h
  ·exact c2 h
  ·exact c3 h
  ·exact c4 h
 simp [c1, d1, c2, d2, c3, d3, c4, d4, PVv, SV, staC, I, iC, lp, tp, e33, e34, e35, e36, e37, w_0, w_1, -errV_0]
 refine call0 (RParty_ok p.k0) (by simp [PVv, SV, staC, I, iC, lp, tp, e33, e34, e35, e36, e37, w_0, w_1, -errV_0]) ?_
 rintro y H' ⟨rfl, rfl⟩
 refine ⟨.inl (by simp), le_ok rfl, ?_⟩
 cases c5 : decide (0 ≤ p.k0 ∧ p.k0 < 16)
 ·have c5 := of_decide_eq_false c5
  rw [show bldE p s = 33 by unfold bldE; rw [if_neg n1, if_pos (.inl c5)]]
  simp [PVv, SV, staC, I, iC, lp, tp, e33, e34, e35, e36, e37, w_0, w_1, -errV_0]
  exact fin0
 have c5 := of_decide_eq_true c5
 simp [PVv, SV, staC, I, iC, lp, tp, e33, e34, e35, e36, e37, w_0, w_1, -errV_0]
 refine call0 (RParty_ok p.k1) (by simp [PVv, SV, staC, I, iC, lp, tp, e33, e34, e35, e36, e37, w_0, w_1, -errV_0]) ?_
 rintro y H' ⟨rfl, rfl⟩
 refine ⟨.inl (by simp), le_ok rfl, ?_⟩
 cases c6 : decide (0 ≤ p.k1 ∧ p.k1 < 16)
 ·have c6 := of_decide_eq_false c6
  rw [show bldE p s = 33 by unfold bldE; rw [if_neg n1, if_pos (.inr (.inl c6))]]
  simp [PVv, SV, staC, I, iC, lp, tp, e33, e34, e35, e36, e37, w_0, w_1, -errV_0]
  exact fin0
 have c6 := of_decide_eq_true c6
 simp [PVv, SV, staC, I, iC, lp, tp, e33, e34, e35, e36, e37, w_0, w_1, -errV_0]
 by_cases c7 : p.k0 = p.k1
 ·rw [show bldE p s = 33 by unfold bldE; rw [if_neg n1, if_pos (.inr (.inr c7))]]
  simp [c7, PVv, SV, staC, I, iC, lp, tp, e33, e34, e35, e36, e37, w_0, w_1, -errV_0]
  exact fin0
 have n2 : ¬ (¬ (0 ≤ p.k0 ∧ p.k0 < 16) ∨ ¬ (0 ≤ p.k1 ∧ p.k1 < 16) ∨ p.k0 = p.k1) := by
  rintro (h | h | h)
  ·exact h c5
  ·exact h c6
  ·exact c7 h
 simp [c7, PVv, SV, staC, I, iC, lp, tp, e33, e34, e35, e36, e37, w_0, w_1, -errV_0]
 refine call0 (RTotal_ok s hs) (by simp [PVv, SV, staC, I, iC, lp, tp, e33, e34, e35, e36, e37, w_0, w_1, -errV_0]) ?_
 rintro y H' ⟨rfl, rfl⟩
 refine ⟨.inl (by simp [I]), le_ok rfl, ?_⟩
 by_cases c8 : totS s = p.am
 rotate_left
 ·rw [show bldE p s = 20 by unfold bldE; rw [if_neg n1, if_neg n2, if_pos c8]]
  simp [c8, PVv, SV, staC, I, iC, lp, tp, e33, e34, e35, e36, e37, w_0, w_1, -errV_0]
  exact fin0
 simp [c8, PVv, SV, staC, I, iC, lp, tp, e33, e34, e35, e36, e37, w_0, w_1, -errV_0]
 by_cases c9 : s.h0 < p.fe
 ·have d9 : ¬ p.fe ≤ s.h0 := by omega
  rw [show bldE p s = 26 by unfold bldE; rw [if_neg n1, if_neg n2, if_neg (by simpa using c8), if_pos c9]]
  simp [c9, d9, PVv, SV, staC, I, iC, lp, tp, e33, e34, e35, e36, e37, w_0, w_1, -errV_0]
  exact fin0
 have d9 : p.fe ≤ s.h0 := by omega
 rw [show bldE p s = 0 by unfold bldE; rw [if_neg n1, if_neg n2, if_neg (by simpa using c8), if_neg c9]]
 simp [c9, d9, PVv, SV, staC, I, iC, lp, tp, e33, e34, e35, e36, e37, w_0, w_1, -errV_0]
 exact fin0
def ylys : UL | _ => [xW 0 1 71 0, xQ 1 2 (.alloc 71 [xZ, xS, xS]), xQ 2 3 (.mov (.k .nilIface))]
def ylyv : UL | _ => [xQ 0 9 (.build [xZ, xS, xS] []), xM 1 10 4, xN 2 (.fz (.sto 3 (.t 2) (.t 9))), xM 3 3 10]
def ylyx : UL | _ => [xD 0 11 3 1, xN 1 (.fz (.sto 3 (.t 2) (.t 11))), xQ 2 3 (.mov (.k .nilIface))]
def ybyz : UB | _ => .seq (reg0 (hid ylys) 3) (.seq (.seq (reg0 [xD 0 5 3 1, xO 1 6 (.call 57 [.t 5]), xM 2 4 6] 3) (.seq (reg0 [xM 0 7 4, xQ 1 8 (.eqi true (.t 7))] 2) (.cond (.t 8) (.seq (reg0 (hid ylyv) 4) .ret) .skip))) (.seq (reg0 (hid ylyx) 3) .ret))
attribute [simp] ylys ylyv ylyx ybyz
def c_BDone : EB × List QOp × Nat := ((hid ybyz), [(.lda 3 (.t 2)), (.mov (.t 3))], 12)
theorem k_BDone : cfun Tryz.prog 73 = some c_BDone := by kernel_rfl
def ylz0 : UL | _ => [xW 0 3 42 0, xW 1 4 49 1, xQ 2 6 (.mov (.k xS)), xQ 3 7 (.mov (.k .nilIface))]
def ylz1 : UL | _ => [xD 0 11 38 3, xD 1 12 5 4, xO 2 13 (.call 70 [.t 11, .t 12]), xM 3 8 13]
def ylz5 : UL | _ => [xM 0 17 2, xO 1 18 (.call 71 [.t 17]), xQ 2 19 (.un .not (.t 18))]
def ybz7 : UB | _ => .seq (reg0 (hid ylz5) 3) (.cond (.t 19) (.seq (reg0 [xQ 0 20 (.mki 132 (xK 1)), xQ 1 6 (.mov (.k xS)), xM 2 7 20] 3) .ret) .skip)
def ylz8 : UL | _ => [xM 6 21 27, xX 7 28 0 21, xX 8 29 1 21, xM 9 9 28, xM 10 10 29]
def ylz9 : UL | _ => xD 0 22 38 3 :: xD 1 23 5 4 :: xM 2 24 2 :: xQ 3 25 (.build zU8 []) :: xQ 4 26 (.build (zU8 ++ (([xZ, xZ, xZ, xZ, xZ, xZ, xZ, xZ, xZ, xS, xS, xZ] : List Value) ++ zU8)) [(0, 38, .t 22), (38, 5, .t 23), (43, 1, .t 24), (44, 32, .t 25)]) :: xO 5 27 (.call 72 [.t 26]) :: hid ylz8
def ybzc : UB | _ => .seq (.seq (reg0 (hid ylz1) 4) (.seq (reg0 [xM 0 14 8, xQ 1 15 (.eqi true (.t 14))] 2) (.cond (.t 15) (.seq (reg0 [xM 0 16 8, xQ 1 6 (.mov (.k xS)), xM 2 7 16] 3) .ret) .skip))) (.seq (hid ybz7) (.seq (reg0 (hid ylz9) 11) (.seq (reg0 [xM 0 30 10, xM 1 6 30, xQ 2 7 (.mov (.k .nilIface))] 3) .ret)))
def ybzd : UB | _ => .seq (reg0 (hid ylz0) 4) (hid ybzc)
attribute [simp] ylz0 ylz1 ylz5 ybz7 ylz8 ylz9 ybzc ybzd
def c_BPlaces : EB × List QOp × Nat := ((hid ybzd), [(.mov (.t 6)), (.mov (.t 7))], 31)
theorem k_BPlaces : cfun Tryz.prog 63 = some c_BPlaces := by kernel_rfl
def ylze : UL | _ => [xW 0 4 42 0, xW 1 5 49 1, xW 2 7 23 3, xQ 3 8 (.alloc 71 [xZ, xS, xS]), xQ 4 9 (.mov (.k .nilIface))]
def ylzf : UL | _ => [xD 0 13 38 4, xD 1 14 5 5, xO 2 15 (.call 70 [.t 13, .t 14]), xM 3 10 15]
def ylzh : UL | _ => [xQ 0 18 (.build [xZ, xS, xS] []), xM 1 19 10, xN 2 (.fz (.sto 3 (.t 8) (.t 18))), xM 3 9 19]
def ylzj : UL | _ => [xG 6 26 23 false (.eqa false 32 .u8 (.t 24) (.t 25)), xP 7 27 23 26]
def ylzk : UL | _ => xM 0 20 2 :: xO 1 21 (.call 71 [.t 20]) :: xQ 2 22 (.un .not (.t 21)) :: xM 3 23 22 :: xG 4 24 23 false (.lda 32 (.t 7)) :: xG 5 25 23 false (.build zU8 []) :: hid ylzj
def ylzl : UL | _ => [xQ 0 28 (.build [xZ, xS, xS] []), xQ 1 29 (.mki 132 (xK 1)), xN 2 (.fz (.sto 3 (.t 8) (.t 28))), xM 3 9 29]
def ylzn : UL | _ => [xM 6 30 36, xX 7 37 0 30, xX 8 38 1 30, xM 9 11 37, xM 10 12 38]
def ylzo : UL | _ => xD 0 31 38 4 :: xD 1 32 5 5 :: xM 2 33 2 :: xD 3 34 32 7 :: xQ 4 35 (.build (zU8 ++ (([xZ, xZ, xZ, xZ, xZ, xZ, xZ, xZ, xZ, xS, xS, xZ] : List Value) ++ zU8)) [(0, 38, .t 31), (38, 5, .t 32), (43, 1, .t 33), (44, 32, .t 34)]) :: xO 5 36 (.call 72 [.t 35]) :: hid ylzn
def ylzp : UL | _ => [xO 6 45 (.call 73 [.t 44]), xX 7 46 0 45, xX 8 47 1 45, xN 9 (.fz (.sto 3 (.t 8) (.t 46))), xM 10 9 47]
def ylzq : UL | _ => xF 0 39 0 4 :: xD 1 40 33 39 :: xQ 2 41 (.build (zU8 ++ [xZ, xZ, xS]) [(0, 33, .t 40)]) :: xO 3 42 (.fz (.q (.bsl 35 (zU8 ++ [xZ, xZ, xS]) 1 [(0, .t 41)]))) :: xM 4 43 11 :: xQ 5 44 (.build [xZ, xS, xS] [(1, 1, .t 42), (2, 1, .t 43)]) :: hid ylzp
def ybzs : UB | _ => .seq (.seq (reg0 (hid ylzf) 4) (.seq (reg0 [xM 0 16 10, xQ 1 17 (.eqi true (.t 16))] 2) (.cond (.t 17) (.seq (reg0 (hid ylzh) 4) .ret) .skip))) (.seq (.seq (reg0 (hid ylzk) 8) (.cond (.t 27) (.seq (reg0 (hid ylzl) 4) .ret) .skip)) (.seq (reg0 (hid ylzo) 11) (.seq (reg0 (hid ylzq) 11) .ret)))
def ybzt : UB | _ => .seq (reg0 (hid ylze) 5) (hid ybzs)
attribute [simp] ylze ylzf ylzh ylzj ylzk ylzl ylzn ylzo ylzp ylzq ybzs ybzt
def c_BCommit : EB × List QOp × Nat := ((hid ybzt), [(.lda 3 (.t 8)), (.mov (.t 9))], 48)
theorem k_BCommit : cfun Tryz.prog 32 = some c_BCommit := by kernel_rfl
def plcS (p : Prm) (s : Sta) (o : Int) : List (Int × Int) × Nat :=
 if bldE p s ≠ 0 then ([], bldE p s) else if ¬ (o = 0 ∨ o = 1) then ([], 1) else (plcB p s o, 0)
def cmtT (p : Prm) (s : Sta) (o : Int) (lock : List UInt8) : Txn := ⟨0, [⟨p.tx, p.n, 0, []⟩], outsB p s o lock⟩
def cmtS (p : Prm) (s : Sta) (o : Int) (lock : List UInt8) : Txn × Nat :=
 if bldE p s ≠ 0 then (zTx, bldE p s) else if ¬ (o = 0 ∨ o = 1) ∨ lock = hz then (zTx, 1) else donT (cmtT p s o lock)
theorem keysS_ris : ∀ {l : List Int} {o : Int}, keysS o l = true → RisI l ∧ ((l.length : Int) ≤ 15 - o ∨ l = []) ∧ ∀ k, l[0]? = some k → o < k
 | [], o, _ => ⟨by intro i a b h; simp at h, .inr rfl, by intro k h; simp at h⟩
 | a :: r, o, h => by
  simp only [keysS, Bool.and_eq_true, decide_eq_true_eq] at h
  obtain ⟨h1, h2, h3⟩ := keysS_ris h.2
  refine ⟨?_, .inl ?_, ?_⟩
  ·intro i x y hx hy
   cases i with
   | zero =>
    simp at hx
    subst hx
    exact h3 y (by simpa using hy)
   | succ i => exact h1 i x y (by simpa using hx) (by simpa using hy)
  ·rcases h2 with h2 | h2
   ·simp; omega
   ·subst h2; simp; omega
  ·intro k hk
   simp at hk; omega
theorem payL_mem' : ∀ {o : Option Int} {l : List Pay}, payL o l = true → ∀ p ∈ l, mayP p = true
 | o, [], _, p, hp => by simp at hp
 | o, a :: r, h, p, hp => by
  simp only [payL, Bool.and_eq_true] at h
  rcases List.mem_cons.1 hp with rfl | hp
  ·exact h.1.1
  ·exact payL_mem' h.2 p hp
theorem bld_0 {p : Prm} {s : Sta} (h : bldE p s = 0) : (mayS s = true ∧ 1 ≤ p.dl ∧ p.dl ≤ 65536 ∧ 0 ≤ p.fe ∧ p.fe ≤ 1125899906842624) ∧ ((0 ≤ p.k0 ∧ p.k0 < 16) ∧ (0 ≤ p.k1 ∧ p.k1 < 16) ∧ p.k0 ≠ p.k1) ∧ totS s = p.am ∧ p.fe ≤ s.h0 := by
 unfold bldE at h
 split at h
 ·simp at h
 rename_i h1
 split at h
 ·simp at h
 rename_i h2
 split at h
 ·simp at h
 rename_i h3
 split at h
 ·simp at h
 rename_i h4
 refine ⟨⟨?_, by omega, by omega, by omega, by omega⟩, ⟨?_, ?_, ?_⟩, by simpa using h3, by omega⟩
 ·cases hm : mayS s
  ·exact absurd (.inl hm) h1
  ·rfl
 ·apply Classical.byContradiction; intro q; exact h2 (.inl q)
 ·apply Classical.byContradiction; intro q; exact h2 (.inr (.inl q))
 ·intro q; exact h2 (.inr (.inr q))
theorem outs_cond {p : Prm} {s : Sta} (h : bldE p s = 0) : i64 (s.h0 - p.fe) ∧ (s.pays.length ≤ 8 ∧ s.holds.length ≤ 8) ∧ (∀ x ∈ s.pays, 10 ≤ x.am ∧ (x.fr = 0 ∨ x.fr = 1)) ∧ ∀ h ∈ s.holds, KeysOK h.keys := by
 obtain ⟨⟨hm, d1, d2, d3, d4⟩, _, _, hf⟩ := bld_0 h
 obtain ⟨hr', hpl, hhl, htot⟩ := mayS_t hm
 refine ⟨by unfold i64; omega, ⟨by omega, by omega⟩, ?_, ?_⟩
 ·intro x hx
  have := of_decide_eq_true (payL_mem' hpl x hx)
  exact ⟨this.2.2.2.1, this.2.2.1⟩
 ·intro x hx
  have := holL_mem hhl x hx
  simp only [mayH, Bool.and_eq_true, decide_eq_true_eq] at this
  obtain ⟨k1, k2⟩ := this
  obtain ⟨q1, q2, _⟩ := keysS_ris k1
  have hlen : x.keys.length ≤ 16 := by
   rcases q2 with q2 | q2
   ·omega
   ·rw [q2]; simp
  exact (keys_ris k2.2.2.2.2 hlen q1).1
theorem outs_risk {p : Prm} {s : Sta} (h : bldE p s = 0) : ∀ h ∈ s.holds, insN h.keys = h.keys := by
 obtain ⟨⟨hm, _⟩, _⟩ := bld_0 h
 obtain ⟨_, _, hhl, _⟩ := mayS_t hm
 intro x hx
 have := holL_mem hhl x hx
 simp only [mayH, Bool.and_eq_true, decide_eq_true_eq] at this
 exact ins_ris (keysS_ris this.1).1
theorem waitV_i64 {p : Prm} (hp : p.ok) (o w : Int) : i64 (waitV p o w) := by
 unfold waitV
 split
 ·exact hp.2.2.2.2.2.1
 ·simp [i64]
theorem outsB_ok {p : Prm} {s : Sta} {o : Int} {lock : List UInt8} (hp : p.ok) (hs : s.ok) (hl : lock.length = 32) (h : bldE p s = 0) : (∀ x ∈ outsB p s o lock, x.ok) ∧ (outsB p s o lock).length ≤ 20 := by
 obtain ⟨k1, k2, k3, k4⟩ := outs_cond h
 have hr := outs_risk h
 obtain ⟨ok1, ok2, ok3, ok4, ok5, ok6, ok7⟩ := id hs
 have hh : ∀ w, i64 (hasP p s w) := fun w => by unfold hasP; split; exact k1; exact ok3
 have hf := fineB_ok (o := o) hp hl
 have hk : ∀ w, ∀ k ∈ [keyO p w], i64 k := fun w k hk => by simp at hk; subst hk; exact keyO_i64 hp _
 refine ⟨?_, ?_⟩
 ·intro x hx
  unfold outsB at hx
  simp only [List.mem_append] at hx
  rcases hx with (hx | hx) | (hx | hx)
  ·unfold out1 at hx
   split at hx
   ·simp at hx; subst hx
    refine ⟨hh o, ?_, by simp [ownB]⟩
    intro b hb
    simp [ownB] at hb
    rcases hb with rfl | rfl
    ·exact ⟨hk o, hz_len, by simp [i64], hp.2.2.2.2.2.1, by simp⟩
    ·exact hf
   ·simp at hx
  ·unfold out2 at hx
   split at hx
   ·simp at hx; subst hx
    refine ⟨hh _, ?_, by simp [allB]⟩
    intro b hb
    simp [allB] at hb
    subst hb
    rw [(keys_one _).2]
    exact ⟨hk _, hz_len, by simp [i64], by simp [i64], by simp⟩
   ·simp at hx
  ·obtain ⟨y, hy, rfl⟩ := List.mem_map.1 hx
   have hyo := ok4 y hy
   refine ⟨hyo.2.2.1, ?_, by simp [paidB]⟩
   intro b hb
   simp [paidB] at hb
   rcases hb with rfl | rfl | rfl
   ·exact ⟨hk _, hyo.2.2.2.2, by simp [i64], waitV_i64 hp _ _, by simp⟩
   ·exact ⟨hk _, hz_len, hyo.2.2.2.1, waitV_i64 hp _ _, by simp⟩
   ·exact hf
  ·obtain ⟨y, hy, rfl⟩ := List.mem_map.1 hx
   have hyo := ok5 y hy
   refine ⟨hyo.2.1, ?_, by simp [allB]⟩
   intro b hb
   simp [allB] at hb
   subst hb
   rw [hr y hy]
   exact ⟨hyo.2.2.1, hz_len, by simp [i64], by simp [i64], hyo.2.2.2⟩
 ·have h1 : (out1 p s o lock).length ≤ 1 := by unfold out1; split <;> simp
  have h2 : (out2 p s o).length ≤ 1 := by unfold out2; split <;> simp
  unfold outsB
  simp [outP, outH]
  omega
theorem cmtT_ok {p : Prm} {s : Sta} {o : Int} {lock : List UInt8} (hp : p.ok) (hs : s.ok) (hl : lock.length = 32) (h : bldE p s = 0) : (cmtT p s o lock).ok := by
 obtain ⟨h1, h2⟩ := outsB_ok (o := o) hp hs hl h
 refine ⟨by simp [cmtT, i64], ?_, h1, by simp [cmtT], by simp [cmtT]; omega⟩
 intro x hx
 simp [cmtT] at hx
 subst hx
 exact ⟨hp.1, hp.2.1, by simp [i64], by simp⟩
theorem fr_nl {Φ : Nat → Prop} {w : World} {es : Nat} {r : List FV} {v : Value} (h : FR Φ w (.sl es [r ++ [.lit (.slice none 0 0)]]) v) : FR Φ w (.sl es [r ++ [.sl 1 []]]) v := by
 cases h with
 | sl es xs b off cap vs hb h0 hl hn hcap hcell hfr =>
  refine .sl es [r ++ [.sl 1 []]] b off cap vs hb h0 ?_ ?_ hcap hcell ?_
  ·intro x hx
   simp at hx
   subst hx
   have := hl _ (by simp : (r ++ [FV.lit (.slice none 0 0)]) ∈ [r ++ [FV.lit (.slice none 0 0)]])
   simpa using this
  ·simpa using hn
  ·intro j x u hx hu
   simp only [List.flatten_cons, List.flatten_nil, List.append_nil] at hx hfr
   by_cases hj : j < r.length
   ·refine hfr j x u ?_ hu
    rw [List.getElem?_append_left hj] at hx ⊢
    exact hx
   ·rw [List.getElem?_append_right (by omega)] at hx
    have hj0 : j - r.length = 0 := by
     rcases Nat.eq_zero_or_pos (j - r.length) with e | e
     ·exact e
     ·rw [List.getElem?_eq_none (by simp; omega)] at hx; simp at hx
    rw [hj0] at hx
    simp at hx
    subst hx
    have h1 := hfr j (.lit (.slice none 0 0)) u (by rw [List.getElem?_append_right (by omega), hj0]; rfl) hu
    cases h1
    exact FR.emp 1 none 0
theorem ecalls_nlI {P : Program} {f : FuncId} {a c : EC} {r : List FV} {rest : List EV} {H : List EO} {post : EV → List (Option EO) → Prop} (h : ECalls P f (.v (.agg [a, .fz (.sl 35 [r ++ [.sl 1 []]]), c]) :: rest) H post) :
  ECalls P f (.v (.agg [a, .fz (.sl 35 [r ++ [.lit (.slice none 0 0)]]), c]) :: rest) H post := by
 intro ρ Φ w vals r' ha
 refine h ρ Φ w vals r' ?_
 obtain ⟨u, us, rfl, h1, h2⟩ := ha.cons_left
 refine All2.cons ?_ h2
 obtain ⟨vs, rfl, hv⟩ := h1
 refine ⟨vs, rfl, by simpa using hv.1, ?_⟩
 intro i x y hx hy
 rcases i with _ | _ | _ | i
 ·exact hv.2 0 x y hx hy
 ·have := hv.2 1 _ y rfl hy
  simp at hx; subst hx
  exact fr_nl this
 ·exact hv.2 2 x y hx hy
 ·simp at hx
theorem mkfold (p : Prm) (a b c o : Int) (P : List Pay) (Q : List Hol) (l : List UInt8) : prmC p ++ (EC.fz (.lit (.int .i64 a)) :: EC.fz (.lit (.int .i64 b)) :: EC.fz (.lit (.int .i64 c)) :: EC.fz (.sl 36 (payv P)) :: EC.fz (.sl 3 (holv Q)) :: EC.fz (.lit (.int .i64 o)) :: hc l) = mkC p ⟨a, b, c, P, Q⟩ o l := rfl
theorem BDone_ok (t : Txn) (ht : t.ok) : ECalls Tryz.prog 73 [TXv t] [] fun y H' => H' = [] ∧ y = .tup [.agg (txC (donT t).1), .c (.fz (.lit (errV (donT t).2)))] := by
 have h1 := TxCheck_ok t ht
 refine ecalls k_BDone ?_
 simp [c_BDone, TXv, txC, iC, -errV_0]
 refine call0 h1 (by simp [TXv, txC, iC]) ?_
 rintro y H' ⟨rfl, rfl⟩
 refine ⟨.inl (by simp), le_ok rfl, ?_⟩
 by_cases c : chkT t = 0
 ·rw [show donT t = (t, 0) from if_neg (by simpa using c)]
  simp [c, -errV_0]
  exact fin0
 ·rw [show donT t = (zTx, chkT t) from if_pos c]
  simp [c, -errV_0]
  refine finW _ (weak_nlB (o := 16) (k := 1) 35 rfl rfl) (finW _ (weak_nlB (o := 16) (k := 2) 2 rfl rfl) ?_)
  exact fin0
theorem BPlaces_ok (p : Prm) (s : Sta) (o : Int) (hp : p.ok) (hs : s.ok) : ECalls Tryz.prog 63 [PVv p, SV s, I .i64 o] [] fun y H' => H' = [] ∧ y = .tup [.c (.fz (.sl 2 (plcv (plcS p s o).1))), .c (.fz (.lit (errV (plcS p s o).2)))] := by
 have h1 := hp.1
 have lp := prmC_len h1
 have tp := pm_take h1
 refine ecalls k_BPlaces ?_
 simp [c_BPlaces, PVv, SV, staC, I, lp, tp, -errV_0]
 refine call0 (BCheck_ok p s hp hs) (by simp [PVv, SV, staC]) ?_
 rintro y H' ⟨rfl, rfl⟩
 refine ⟨.inl (by simp), le_ok rfl, ?_⟩
 by_cases c : bldE p s = 0
 rotate_left
 ·rw [show plcS p s o = ([], bldE p s) from if_pos c]
  simp [c, -errV_0]
  refine finW _ (weak_nilF 6 2 rfl) ?_
  exact fin0
 simp [c, I, -errV_0]
 refine call0 (BSide_ok o) (by simp [I]) ?_
 rintro y H' ⟨rfl, rfl⟩
 refine ⟨.inl (by simp), le_ok rfl, ?_⟩
 cases c2 : decide (o = 0 ∨ o = 1)
 ·have c2 := of_decide_eq_false c2
  rw [show plcS p s o = ([], 1) by unfold plcS; rw [if_neg (by simpa using c), if_pos c2]]
  simp [-errV_0]
  refine finW _ (weak_nilF 6 2 rfl) ?_
  exact fin0
 have c2 := of_decide_eq_true c2
 rw [show plcS p s o = (plcB p s o, 0) by unfold plcS; rw [if_neg (by simpa using c), if_neg (fun q => q c2)]]
 obtain ⟨k1, k2, k3, k4⟩ := outs_cond c
 simp [PVv, SV, staC, I, lp, tp, -errV_0]
 simp [List.take_append, List.drop_append, List.tkL, List.drop_of_length_le, lp, hz_len, tp, -errV_0]
 simp only [mkfold]
 refine call0 (BOuts_ok p s o hz hp hz_len c2 hs k1 k2 k3 k4) (by simp [MKv]) ?_
 rintro y H' ⟨rfl, rfl⟩
 refine ⟨.inl (by simp), le_ok rfl, ?_⟩
 simp [-errV_0]
 exact fin0
theorem BCommit_ok (p : Prm) (s : Sta) (o : Int) (lock : List UInt8) (hp : p.ok) (hs : s.ok) (hl : lock.length = 32) : ECalls Tryz.prog 32 [PVv p, SV s, I .i64 o, .v (.agg (hc lock))] [] fun y H' => H' = [] ∧ y = .tup [.agg (txC (cmtS p s o lock).1), .c (.fz (.lit (errV (cmtS p s o lock).2)))] := by
 have h1 := hp.1
 have lp := prmC_len h1
 have tp := pm_take h1
 refine ecalls k_BCommit ?_
 simp [c_BCommit, PVv, SV, staC, I, lp, tp, -errV_0]
 refine call0 (BCheck_ok p s hp hs) (by simp [PVv, SV, staC]) ?_
 rintro y H' ⟨rfl, rfl⟩
 refine ⟨.inl (by simp), le_ok rfl, ?_⟩
 by_cases c : bldE p s = 0
 rotate_left
 ·rw [show cmtS p s o lock = (zTx, bldE p s) from if_pos c]
  simp [c, -errV_0]
  refine finW _ (weak_nlB (o := 48) (k := 1) 35 rfl rfl) (finW _ (weak_nlB (o := 48) (k := 2) 2 rfl rfl) ?_)
  exact fin0
 simp [c, I, -errV_0]
 refine call0 (BSide_ok o) (by simp [I]) ?_
 rintro y H' ⟨rfl, rfl⟩
 refine ⟨.inl (by simp), le_ok rfl, ?_⟩
 cases c2 : decide (o = 0 ∨ o = 1)
 ·have c2 := of_decide_eq_false c2
  rw [show cmtS p s o lock = (zTx, 1) by unfold cmtS; rw [if_neg (by simpa using c), if_pos (.inl c2)]]
  simp [-errV_0]
  refine finW _ (weak_nlB (o := 48) (k := 1) 35 rfl rfl) (finW _ (weak_nlB (o := 48) (k := 2) 2 rfl rfl) ?_)
  exact fin0
 have c2 := of_decide_eq_true c2
 obtain ⟨k1, k2, k3, k4⟩ := outs_cond c
 simp [PVv, SV, staC, I, lp, tp, hl, hc_t32 hl, -errV_0]
 refine alt (fun c3 => ?_) (fun c3 => ?_)
 ·rw [show cmtS p s o lock = (zTx, 1) by unfold cmtS; rw [if_neg (by simpa using c), if_pos (.inr c3)]]
  simp [-errV_0]
  refine finW _ (weak_nlB (o := 48) (k := 1) 35 rfl rfl) (finW _ (weak_nlB (o := 48) (k := 2) 2 rfl rfl) ?_)
  exact fin0
 rw [show cmtS p s o lock = donT (cmtT p s o lock) by unfold cmtS; rw [if_neg (by simpa using c), if_neg (by rintro (q | q); exact q c2; exact c3 q)]]
 simp [List.take_append, List.drop_append, List.tkL, List.drop_of_length_le, lp, hz_len, hl, tp, hc_t32 hl, -errV_0]
 simp only [mkfold]
 refine call0 (BOuts_ok p s o lock hp hl c2 hs k1 k2 k3 k4) (by simp [MKv]) ?_
 rintro y H' ⟨rfl, rfl⟩
 refine ⟨.inl (by simp), le_ok rfl, ?_⟩
 have t33 := pm_33 h1
 have hD := BDone_ok (cmtT p s o lock) (cmtT_ok hp hs hl c)
 have hD' : ECalls Tryz.prog 73 [.v (.agg [iC 0, .fz (.sl 35 [(hf p.tx ++ [iF p.n, iF 0]) ++ [.lit (.slice none 0 0)]]), .fz (.sl 2 (outv (outsB p s o lock)))])] [] _ := ecalls_nlI (by rw [List.append_assoc]; exact hD)
 simp [lp, t33, iC, drop33i, h1, frzAll_hc, -errV_0]
 refine call0 hD' (by simp [iC, iF]) ?_
 rintro y H' ⟨rfl, rfl⟩
 refine ⟨.inl (by simp [txC, iC]), le_ok rfl, ?_⟩
 simp [txC, iC, -errV_0]
 exact fin0
end Go.Proofs.YtejjhgdnmknejaaGreatDoor
