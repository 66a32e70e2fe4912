import Derived.Test.YtddcceahaigodaaGreatDoorAll9
import Derived.Test.YtddcceahaigodaaGreatDoorAll8
import Derived.Test.YtddcceahaigodaaGreatDoorProg
import Derived.Test.YtddcceahaigodaaGreatDoorAll5
import Derived.Test.YtddcceahaigodaaGreatDoorAll6
import Derived.WalkKit
import Derived.LaidEql
import Derived.RowKitTokens
import Derived.Lib.AppendZeros
import Derived.Test.YtddcceahaigodaaGreatDoorAll7
set_option maxHeartbeats 64000000
namespace Go.Proofs.YtddcceahaigodaaGreatDoor
open Go Go.EW
set_option linter.unusedSimpArgs false
set_option linter.unusedVariables false
def yl1 : UL | _ => [xI 6 16 1 14 15, xL 7 17 16, xO 8 18 (.call 104 [.t 13, .t 17])]
def yl2 : UL | _ => xM 0 10 0 :: xM 1 11 2 :: xI 2 12 1 10 11 :: xL 3 13 12 :: xM 4 14 0 :: xM 5 15 1 :: hid yl1
def yl3 : UL | _ => [xM 0 19 3, xQ 1 20 (.nilc (.t 19)), xL 2 21 20, xc 3 22 .add 21 1, xQ 4 23 (.nilc (.t 19)), xN 5 (.sto 1 (.t 23) (.t 22))]
def yb8 : UB | _ => .seq (reg0 [xC 0 8 0, xC 1 9 0] 2) (.seq (.seq (reg0 (hid yl2) 9) (.cond (.t 18) (.seq (reg0 (hid yl3) 6) (.seq (reg0 [xM 0 24 2, xM 1 25 1, xM 2 8 24, xM 3 9 25] 4) .ret)) .skip)) (.seq (reg0 [xM 0 26 1, xM 1 27 2, xM 2 8 26, xM 3 9 27] 4) .ret))
attribute [simp] yl1 yl2 yl3 yb8
def c_Ord2I : EB × List QOp × Nat := ((hid yb8), [(.mov (.t 8)), (.mov (.t 9))], 28)
theorem k_Ord2I : cfun Tryz.prog 182 = some c_Ord2I := by kernel_rfl
def yla : UL | _ => [xX 6 17 0 11, xX 7 18 1 11, xM 8 1 17, xM 9 2 18]
def ylb : UL | _ => xM 0 12 0 :: xM 1 13 1 :: xM 2 14 2 :: xM 3 15 4 :: xO 4 16 (.call 182 [.t 12, .t 13, .t 14, .t 15]) :: xM 5 11 16 :: hid yla
def ylc : UL | _ => [xX 6 25 0 19, xX 7 26 1 19, xM 8 2 25, xM 9 3 26]
def yld : UL | _ => xM 0 20 0 :: xM 1 21 2 :: xM 2 22 3 :: xM 3 23 4 :: xO 4 24 (.call 182 [.t 20, .t 21, .t 22, .t 23]) :: xM 5 19 24 :: hid ylc
def yle : UL | _ => [xX 6 33 0 27, xX 7 34 1 27, xM 8 1 33, xM 9 2 34]
def ylf : UL | _ => xM 0 28 0 :: xM 1 29 1 :: xM 2 30 2 :: xM 3 31 4 :: xO 4 32 (.call 182 [.t 28, .t 29, .t 30, .t 31]) :: xM 5 27 32 :: hid yle
def ybi : UB | _ => .seq (reg0 [xC 0 10 0] 1) (.seq (reg0 (hid ylb) 10) (.seq (reg0 (hid yld) 10) (.seq (reg0 (hid ylf) 10) (.seq (reg0 [xM 0 35 2, xM 1 10 35] 2) .ret))))
attribute [simp] yla ylb ylc yld yle ylf ybi
def c_MedI : EB × List QOp × Nat := ((hid ybi), [(.mov (.t 10))], 36)
theorem k_MedI : cfun Tryz.prog 175 = some c_MedI := by kernel_rfl
def ylm : UL | _ => [xM 0 16 1, xM 1 17 8, xc 2 18 .quo 17 4, xc 3 19 .mul 18 1, xb 4 20 .add 16 19, xM 5 10 20]
def yln : UL | _ => [xM 0 21 1, xM 1 22 8, xc 2 23 .quo 22 4, xc 3 24 .mul 23 2, xb 4 25 .add 21 24, xM 5 11 25]
def ylo : UL | _ => [xM 0 26 1, xM 1 27 8, xc 2 28 .quo 27 4, xc 3 29 .mul 28 3, xb 4 30 .add 26 29, xM 5 12 30]
def ylr : UL | _ => [xM 0 35 0, xM 1 36 10, xO 2 37 (.call 174 [.t 35, .t 36, .t 9]), xM 3 10 37]
def yls : UL | _ => [xM 0 38 0, xM 1 39 11, xO 2 40 (.call 174 [.t 38, .t 39, .t 9]), xM 3 11 40]
def ylt : UL | _ => [xM 0 41 0, xM 1 42 12, xO 2 43 (.call 174 [.t 41, .t 42, .t 9]), xM 3 12 43]
def ylv : UL | _ => [xM 0 44 0, xM 1 45 10, xM 2 46 11, xM 3 47 12, xO 4 48 (.call 175 [.t 44, .t 45, .t 46, .t 47, .t 9]), xM 5 11 48]
def yb14 : UB | _ => .cond (.t 51) (.seq (reg0 [xM 0 53 11, xM 1 6 53, xC 2 7 1] 3) .ret) (.seq (reg0 [xc 0 55 .eql 49 12, xM 1 54 55] 2) (.cond (.t 54) (.seq (reg0 [xM 0 56 11, xM 1 6 56, xC 2 7 2] 3) .ret) (.seq (reg0 [xM 0 50 11, xM 1 6 50, xC 2 7 0] 3) .ret)))
def yb15 : UB | _ => .seq (reg0 [xL 0 49 9] 1) (.block 0 (.seq (reg0 [xc 0 52 .eql 49 0, xM 1 51 52] 2) (hid yb14)))
def yb16 : UB | _ => .seq (.seq (reg0 [xM 0 31 8, xc 1 32 .geq 31 8] 2) (.cond (.t 32) (.seq (.seq (reg0 [xM 0 33 8, xc 1 34 .geq 33 50] 2) (.cond (.t 34) (.seq (reg0 (hid ylr) 4) (.seq (reg0 (hid yls) 4) (reg0 (hid ylt) 4))) .skip)) (reg0 (hid ylv) 6)) .skip)) (hid yb15)
def yb17 : UB | _ => .seq (reg0 (hid yln) 6) (.seq (reg0 (hid ylo) 6) (hid yb16))
def yb18 : UB | _ => .seq (reg0 [xQ 0 9 (.alloc 3 [xZ])] 1) (.seq (reg0 (hid ylm) 6) (hid yb17))
def yb19 : UB | _ => .seq (reg0 [xC 0 6 0, xC 1 7 0] 2) (.seq (reg0 [xM 0 13 2, xM 1 14 1, xb 2 15 .sub 13 14, xM 3 8 15] 4) (hid yb18))
attribute [simp] ylm yln ylo ylr yls ylt ylv yb14 yb15 yb16 yb17 yb18 yb19
def c_ChpI : EB × List QOp × Nat := ((hid yb19), [(.mov (.t 6)), (.mov (.t 7))], 57)
theorem k_ChpI : cfun Tryz.prog 148 = some c_ChpI := by kernel_rfl
def yl1e : UL | _ => [yL 12 29 20 true 28, ⟨13, (some 30), (some (20, true)), (.call 104 [.t 24, .t 29]), []⟩, xG 14 31 20 true (.un .not (.t 30)), xR 15 32 20 31]
def yl1f : UL | _ => xG 6 23 20 true (.isl 1 (.t 21) (.t 22)) :: yL 7 24 20 true 23 :: yM 8 25 20 true 0 :: yM 9 26 20 true 7 :: xG 10 27 20 true (.bin .sub (.t 26) (xK 1)) :: xG 11 28 20 true (.isl 1 (.t 25) (.t 27)) :: hid yl1e
def yl1g : UL | _ => xM 0 17 7 :: xM 1 18 2 :: xb 2 19 .lss 17 18 :: xM 3 20 19 :: yM 4 21 20 true 0 :: yM 5 22 20 true 7 :: hid yl1f
def yb1o : UB | _ => .seq (reg0 [xM 0 38 2, xM 1 39 1, xb 2 40 .sub 38 39, xc 3 41 .lss 40 50] 4) (.cond (.t 41) (.seq (reg0 [xQ 0 6 (.mov (.k (.bool false)))] 1) .ret) .skip)
def yl1p : UL | _ => [xI 12 54 1 52 53, xL 13 55 54, xI 14 56 1 42 43, ⟨15, none, none, (.sto 1 (.t 56) (.t 51)), [2, 3, 4]⟩, xI 16 57 1 44 46, xN 17 (.sto 1 (.t 57) (.t 55))]
def yl1q : UL | _ => xM 6 48 7 :: xc 7 49 .sub 48 1 :: xI 8 50 1 47 49 :: xL 9 51 50 :: xM 10 52 0 :: xM 11 53 7 :: hid yl1p
def yl1r : UL | _ => xM 0 42 0 :: xM 1 43 7 :: xM 2 44 0 :: xM 3 45 7 :: xc 4 46 .sub 45 1 :: xM 5 47 0 :: hid yl1q
def yl1v : UL | _ => [xc 6 74 .sub 73 1, xI 7 75 1 72 74, xL 8 76 75, xO 9 77 (.call 104 [.t 71, .t 76]), xQ 10 78 (.un .not (.t 77))]
def yl1w : UL | _ => xM 0 68 0 :: xM 1 69 9 :: xI 2 70 1 68 69 :: xL 3 71 70 :: xM 4 72 0 :: xM 5 73 9 :: hid yl1v
def yl1x : UL | _ => [xI 12 91 1 89 90, xL 13 92 91, xI 14 93 1 79 80, ⟨15, none, none, (.sto 1 (.t 93) (.t 88)), [2, 3, 4]⟩, xI 16 94 1 81 83, xN 17 (.sto 1 (.t 94) (.t 92))]
def yl1y : UL | _ => xM 6 85 9 :: xc 7 86 .sub 85 1 :: xI 8 87 1 84 86 :: xL 9 88 87 :: xM 10 89 0 :: xM 11 90 9 :: hid yl1x
def yl1z : UL | _ => xM 0 79 0 :: xM 1 80 9 :: xM 2 81 0 :: xM 3 82 9 :: xc 4 83 .sub 82 1 :: xM 5 84 0 :: hid yl1y
def yb22 : UB | _ => .seq (.seq (reg0 [xM 0 64 9, xc 1 65 .geq 64 1] 2) (.cond (.t 65) .skip (.exit 4))) (.seq (.block 5 (.seq (.seq (reg0 (hid yl1w) 11) (.cond (.t 78) (.exit 4) .skip)) (reg1 (hid yl1z) 18))) (reg0 [xM 0 66 9, xc 1 67 .sub 66 1, xM 2 9 67] 3))
def yb23 : UB | _ => .cond (.t 61) (.seq (reg0 [xM 0 62 7, xc 1 63 .sub 62 1, xM 2 9 63] 3) (.block 4 (.loop (hid yb22)))) .skip
def yl27 : UL | _ => [xc 6 112 .sub 111 1, xI 7 113 1 110 112, xL 8 114 113, xO 9 115 (.call 104 [.t 109, .t 114]), xQ 10 116 (.un .not (.t 115))]
def yl28 : UL | _ => xM 0 106 0 :: xM 1 107 10 :: xI 2 108 1 106 107 :: xL 3 109 108 :: xM 4 110 0 :: xM 5 111 10 :: hid yl27
def yl29 : UL | _ => [xI 12 129 1 127 128, xL 13 130 129, xI 14 131 1 117 118, ⟨15, none, none, (.sto 1 (.t 131) (.t 126)), [2, 3, 4]⟩, xI 16 132 1 119 121, xN 17 (.sto 1 (.t 132) (.t 130))]
def yl2a : UL | _ => xM 6 123 10 :: xc 7 124 .sub 123 1 :: xI 8 125 1 122 124 :: xL 9 126 125 :: xM 10 127 0 :: xM 11 128 10 :: hid yl29
def yl2b : UL | _ => xM 0 117 0 :: xM 1 118 10 :: xM 2 119 0 :: xM 3 120 10 :: xc 4 121 .sub 120 1 :: xM 5 122 0 :: hid yl2a
def yb2e : UB | _ => .seq (.seq (reg0 [xM 0 101 10, xM 1 102 2, xb 2 103 .lss 101 102] 3) (.cond (.t 103) .skip (.exit 6))) (.seq (.block 7 (.seq (.seq (reg0 (hid yl28) 11) (.cond (.t 116) (.exit 6) .skip)) (reg1 (hid yl2b) 18))) (reg0 [xM 0 104 10, xc 1 105 .add 104 1, xM 2 10 105] 3))
def yb2g : UB | _ => .seq (.seq (reg0 [xM 0 58 7, xM 1 59 1, xb 2 60 .sub 58 59, xc 3 61 .geq 60 2] 4) (hid yb23)) (.seq (reg0 [xM 0 95 2, xM 1 96 7, xb 2 97 .sub 95 96, xc 3 98 .geq 97 2] 4) (.cond (.t 98) (.seq (reg0 [xM 0 99 7, xc 1 100 .add 99 1, xM 2 10 100] 3) (.block 6 (.loop (hid yb2e)))) .skip))
def yb2h : UB | _ => .seq (.seq (reg0 [xM 0 35 7, xM 1 36 2, xb 2 37 .eql 35 36] 3) (.cond (.t 37) (.seq (reg0 [xQ 0 6 (.mov (.k (.bool true)))] 1) .ret) .skip)) (.seq (hid yb1o) (.seq (reg1 (hid yl1r) 18) (hid yb2g)))
def yb2j : UB | _ => .seq (.block 1 (.seq (.block 2 (.loop (.seq (.seq (reg0 (hid yl1g) 16) (.cond (.t 32) .skip (.exit 2))) (.block 3 (reg0 [xM 0 33 7, xc 1 34 .add 33 1, xM 2 7 34] 3))))) (hid yb2h))) (reg0 [xM 0 15 8, xc 1 16 .add 15 1, xM 2 8 16] 3)
def yb2k : UB | _ => .seq (.seq (reg0 [xM 0 13 8, xc 1 14 .lss 13 5] 2) (.cond (.t 14) .skip (.exit 0))) (hid yb2j)
def yb2m : UB | _ => .seq (.seq (reg0 [xC 0 8 0] 1) (.block 0 (.loop (hid yb2k)))) (.seq (reg0 [xQ 0 6 (.mov (.k (.bool false)))] 1) .ret)
def yb2n : UB | _ => .seq (reg0 [xQ 0 6 (.mov (.k (.bool false)))] 1) (.seq (reg0 [xM 0 11 1, xc 1 12 .add 11 1, xM 2 7 12] 3) (hid yb2m))
attribute [simp] yl1e yl1f yl1g yb1o yl1p yl1q yl1r yl1v yl1w yl1x yl1y yl1z yb22 yb23 yl27 yl28 yl29 yl2a yl2b yb2e yb2g yb2h yb2j yb2k yb2m yb2n
def c_PisI : EB × List QOp × Nat := ((hid yb2n), [(.mov (.t 6))], 133)
theorem k_PisI : cfun Tryz.prog 150 = some c_PisI := by kernel_rfl
theorem LenB64_1 : ECalls Tryz.prog 154 [.lit (.int .u64 1)] [] fun y H' => H' = [] ∧ y = I .i64 1 := by
 refine ecalls k_LenB64 ?_
 have w1 : IntKind.u8.wrap 1 = 1 := by decide +kernel
 have w2 : IntKind.i64.wrap 1 = 1 := by decide +kernel
 have hs : s_LenB64_0.data[1]? = some 1 := by decide +kernel
 simp [c_LenB64, I, w1, hs, w2]
 exact fin0
theorem LenB_1 : ECalls Tryz.prog 103 [.lit (.int .u64 1)] [] fun y H' => H' = [] ∧ y = I .i64 1 := by
 refine ecalls k_LenB ?_
 simp [c_LenB, I]
 refine call0 LenB64_1 (by simp) ?_
 rintro y H' ⟨rfl, rfl⟩
 refine ⟨.inl (by simp [I]), le_ok rfl, ?_⟩
 simp [I]
 exact fin0
theorem LenB64_2 : ECalls Tryz.prog 154 [.lit (.int .u64 2)] [] fun y H' => H' = [] ∧ y = I .i64 2 := by
 refine ecalls k_LenB64 ?_
 have w1 : IntKind.u8.wrap 2 = 2 := by decide +kernel
 have w2 : IntKind.i64.wrap 2 = 2 := by decide +kernel
 have hs : s_LenB64_0.data[2]? = some 2 := by decide +kernel
 simp [c_LenB64, I, w1, hs, w2]
 exact fin0
theorem LenB_2 : ECalls Tryz.prog 103 [.lit (.int .u64 2)] [] fun y H' => H' = [] ∧ y = I .i64 2 := by
 refine ecalls k_LenB ?_
 simp [c_LenB, I]
 refine call0 LenB64_2 (by simp) ?_
 rintro y H' ⟨rfl, rfl⟩
 refine ⟨.inl (by simp [I]), le_ok rfl, ?_⟩
 simp [I]
 exact fin0
theorem LenB64_3 : ECalls Tryz.prog 154 [.lit (.int .u64 3)] [] fun y H' => H' = [] ∧ y = I .i64 2 := by
 refine ecalls k_LenB64 ?_
 have w1 : IntKind.u8.wrap 3 = 3 := by decide +kernel
 have w2 : IntKind.i64.wrap 2 = 2 := by decide +kernel
 have hs : s_LenB64_0.data[3]? = some 2 := by decide +kernel
 simp [c_LenB64, I, w1, hs, w2]
 exact fin0
theorem LenB_3 : ECalls Tryz.prog 103 [.lit (.int .u64 3)] [] fun y H' => H' = [] ∧ y = I .i64 2 := by
 refine ecalls k_LenB ?_
 simp [c_LenB, I]
 refine call0 LenB64_3 (by simp) ?_
 rintro y H' ⟨rfl, rfl⟩
 refine ⟨.inl (by simp [I]), le_ok rfl, ?_⟩
 simp [I]
 exact fin0
theorem LenB64_4 : ECalls Tryz.prog 154 [.lit (.int .u64 4)] [] fun y H' => H' = [] ∧ y = I .i64 3 := by
 refine ecalls k_LenB64 ?_
 have w1 : IntKind.u8.wrap 4 = 4 := by decide +kernel
 have w2 : IntKind.i64.wrap 3 = 3 := by decide +kernel
 have hs : s_LenB64_0.data[4]? = some 3 := by decide +kernel
 simp [c_LenB64, I, w1, hs, w2]
 exact fin0
theorem LenB_4 : ECalls Tryz.prog 103 [.lit (.int .u64 4)] [] fun y H' => H' = [] ∧ y = I .i64 3 := by
 refine ecalls k_LenB ?_
 simp [c_LenB, I]
 refine call0 LenB64_4 (by simp) ?_
 rintro y H' ⟨rfl, rfl⟩
 refine ⟨.inl (by simp [I]), le_ok rfl, ?_⟩
 simp [I]
 exact fin0
theorem LenB64_5 : ECalls Tryz.prog 154 [.lit (.int .u64 5)] [] fun y H' => H' = [] ∧ y = I .i64 3 := by
 refine ecalls k_LenB64 ?_
 have w1 : IntKind.u8.wrap 5 = 5 := by decide +kernel
 have w2 : IntKind.i64.wrap 3 = 3 := by decide +kernel
 have hs : s_LenB64_0.data[5]? = some 3 := by decide +kernel
 simp [c_LenB64, I, w1, hs, w2]
 exact fin0
theorem LenB_5 : ECalls Tryz.prog 103 [.lit (.int .u64 5)] [] fun y H' => H' = [] ∧ y = I .i64 3 := by
 refine ecalls k_LenB ?_
 simp [c_LenB, I]
 refine call0 LenB64_5 (by simp) ?_
 rintro y H' ⟨rfl, rfl⟩
 refine ⟨.inl (by simp [I]), le_ok rfl, ?_⟩
 simp [I]
 exact fin0
theorem LenB64_6 : ECalls Tryz.prog 154 [.lit (.int .u64 6)] [] fun y H' => H' = [] ∧ y = I .i64 3 := by
 refine ecalls k_LenB64 ?_
 have w1 : IntKind.u8.wrap 6 = 6 := by decide +kernel
 have w2 : IntKind.i64.wrap 3 = 3 := by decide +kernel
 have hs : s_LenB64_0.data[6]? = some 3 := by decide +kernel
 simp [c_LenB64, I, w1, hs, w2]
 exact fin0
theorem LenB_6 : ECalls Tryz.prog 103 [.lit (.int .u64 6)] [] fun y H' => H' = [] ∧ y = I .i64 3 := by
 refine ecalls k_LenB ?_
 simp [c_LenB, I]
 refine call0 LenB64_6 (by simp) ?_
 rintro y H' ⟨rfl, rfl⟩
 refine ⟨.inl (by simp [I]), le_ok rfl, ?_⟩
 simp [I]
 exact fin0
theorem LenB64_7 : ECalls Tryz.prog 154 [.lit (.int .u64 7)] [] fun y H' => H' = [] ∧ y = I .i64 3 := by
 refine ecalls k_LenB64 ?_
 have w1 : IntKind.u8.wrap 7 = 7 := by decide +kernel
 have w2 : IntKind.i64.wrap 3 = 3 := by decide +kernel
 have hs : s_LenB64_0.data[7]? = some 3 := by decide +kernel
 simp [c_LenB64, I, w1, hs, w2]
 exact fin0
theorem LenB_7 : ECalls Tryz.prog 103 [.lit (.int .u64 7)] [] fun y H' => H' = [] ∧ y = I .i64 3 := by
 refine ecalls k_LenB ?_
 simp [c_LenB, I]
 refine call0 LenB64_7 (by simp) ?_
 rintro y H' ⟨rfl, rfl⟩
 refine ⟨.inl (by simp [I]), le_ok rfl, ?_⟩
 simp [I]
 exact fin0
theorem LenB64_8 : ECalls Tryz.prog 154 [.lit (.int .u64 8)] [] fun y H' => H' = [] ∧ y = I .i64 4 := by
 refine ecalls k_LenB64 ?_
 have w1 : IntKind.u8.wrap 8 = 8 := by decide +kernel
 have w2 : IntKind.i64.wrap 4 = 4 := by decide +kernel
 have hs : s_LenB64_0.data[8]? = some 4 := by decide +kernel
 simp [c_LenB64, I, w1, hs, w2]
 exact fin0
theorem LenB_8 : ECalls Tryz.prog 103 [.lit (.int .u64 8)] [] fun y H' => H' = [] ∧ y = I .i64 4 := by
 refine ecalls k_LenB ?_
 simp [c_LenB, I]
 refine call0 LenB64_8 (by simp) ?_
 rintro y H' ⟨rfl, rfl⟩
 refine ⟨.inl (by simp [I]), le_ok rfl, ?_⟩
 simp [I]
 exact fin0
theorem LenB64_9 : ECalls Tryz.prog 154 [.lit (.int .u64 9)] [] fun y H' => H' = [] ∧ y = I .i64 4 := by
 refine ecalls k_LenB64 ?_
 have w1 : IntKind.u8.wrap 9 = 9 := by decide +kernel
 have w2 : IntKind.i64.wrap 4 = 4 := by decide +kernel
 have hs : s_LenB64_0.data[9]? = some 4 := by decide +kernel
 simp [c_LenB64, I, w1, hs, w2]
 exact fin0
theorem LenB_9 : ECalls Tryz.prog 103 [.lit (.int .u64 9)] [] fun y H' => H' = [] ∧ y = I .i64 4 := by
 refine ecalls k_LenB ?_
 simp [c_LenB, I]
 refine call0 LenB64_9 (by simp) ?_
 rintro y H' ⟨rfl, rfl⟩
 refine ⟨.inl (by simp [I]), le_ok rfl, ?_⟩
 simp [I]
 exact fin0
theorem LenB64_10 : ECalls Tryz.prog 154 [.lit (.int .u64 10)] [] fun y H' => H' = [] ∧ y = I .i64 4 := by
 refine ecalls k_LenB64 ?_
 have w1 : IntKind.u8.wrap 10 = 10 := by decide +kernel
 have w2 : IntKind.i64.wrap 4 = 4 := by decide +kernel
 have hs : s_LenB64_0.data[10]? = some 4 := by decide +kernel
 simp [c_LenB64, I, w1, hs, w2]
 exact fin0
theorem LenB_10 : ECalls Tryz.prog 103 [.lit (.int .u64 10)] [] fun y H' => H' = [] ∧ y = I .i64 4 := by
 refine ecalls k_LenB ?_
 simp [c_LenB, I]
 refine call0 LenB64_10 (by simp) ?_
 rintro y H' ⟨rfl, rfl⟩
 refine ⟨.inl (by simp [I]), le_ok rfl, ?_⟩
 simp [I]
 exact fin0
theorem LenB64_11 : ECalls Tryz.prog 154 [.lit (.int .u64 11)] [] fun y H' => H' = [] ∧ y = I .i64 4 := by
 refine ecalls k_LenB64 ?_
 have w1 : IntKind.u8.wrap 11 = 11 := by decide +kernel
 have w2 : IntKind.i64.wrap 4 = 4 := by decide +kernel
 have hs : s_LenB64_0.data[11]? = some 4 := by decide +kernel
 simp [c_LenB64, I, w1, hs, w2]
 exact fin0
theorem LenB_11 : ECalls Tryz.prog 103 [.lit (.int .u64 11)] [] fun y H' => H' = [] ∧ y = I .i64 4 := by
 refine ecalls k_LenB ?_
 simp [c_LenB, I]
 refine call0 LenB64_11 (by simp) ?_
 rintro y H' ⟨rfl, rfl⟩
 refine ⟨.inl (by simp [I]), le_ok rfl, ?_⟩
 simp [I]
 exact fin0
theorem LenB64_12 : ECalls Tryz.prog 154 [.lit (.int .u64 12)] [] fun y H' => H' = [] ∧ y = I .i64 4 := by
 refine ecalls k_LenB64 ?_
 have w1 : IntKind.u8.wrap 12 = 12 := by decide +kernel
 have w2 : IntKind.i64.wrap 4 = 4 := by decide +kernel
 have hs : s_LenB64_0.data[12]? = some 4 := by decide +kernel
 simp [c_LenB64, I, w1, hs, w2]
 exact fin0
theorem LenB_12 : ECalls Tryz.prog 103 [.lit (.int .u64 12)] [] fun y H' => H' = [] ∧ y = I .i64 4 := by
 refine ecalls k_LenB ?_
 simp [c_LenB, I]
 refine call0 LenB64_12 (by simp) ?_
 rintro y H' ⟨rfl, rfl⟩
 refine ⟨.inl (by simp [I]), le_ok rfl, ?_⟩
 simp [I]
 exact fin0
theorem LenB64_13 : ECalls Tryz.prog 154 [.lit (.int .u64 13)] [] fun y H' => H' = [] ∧ y = I .i64 4 := by
 refine ecalls k_LenB64 ?_
 have w1 : IntKind.u8.wrap 13 = 13 := by decide +kernel
 have w2 : IntKind.i64.wrap 4 = 4 := by decide +kernel
 have hs : s_LenB64_0.data[13]? = some 4 := by decide +kernel
 simp [c_LenB64, I, w1, hs, w2]
 exact fin0
theorem LenB_13 : ECalls Tryz.prog 103 [.lit (.int .u64 13)] [] fun y H' => H' = [] ∧ y = I .i64 4 := by
 refine ecalls k_LenB ?_
 simp [c_LenB, I]
 refine call0 LenB64_13 (by simp) ?_
 rintro y H' ⟨rfl, rfl⟩
 refine ⟨.inl (by simp [I]), le_ok rfl, ?_⟩
 simp [I]
 exact fin0
theorem LenB64_14 : ECalls Tryz.prog 154 [.lit (.int .u64 14)] [] fun y H' => H' = [] ∧ y = I .i64 4 := by
 refine ecalls k_LenB64 ?_
 have w1 : IntKind.u8.wrap 14 = 14 := by decide +kernel
 have w2 : IntKind.i64.wrap 4 = 4 := by decide +kernel
 have hs : s_LenB64_0.data[14]? = some 4 := by decide +kernel
 simp [c_LenB64, I, w1, hs, w2]
 exact fin0
theorem LenB_14 : ECalls Tryz.prog 103 [.lit (.int .u64 14)] [] fun y H' => H' = [] ∧ y = I .i64 4 := by
 refine ecalls k_LenB ?_
 simp [c_LenB, I]
 refine call0 LenB64_14 (by simp) ?_
 rintro y H' ⟨rfl, rfl⟩
 refine ⟨.inl (by simp [I]), le_ok rfl, ?_⟩
 simp [I]
 exact fin0
theorem LenB64_15 : ECalls Tryz.prog 154 [.lit (.int .u64 15)] [] fun y H' => H' = [] ∧ y = I .i64 4 := by
 refine ecalls k_LenB64 ?_
 have w1 : IntKind.u8.wrap 15 = 15 := by decide +kernel
 have w2 : IntKind.i64.wrap 4 = 4 := by decide +kernel
 have hs : s_LenB64_0.data[15]? = some 4 := by decide +kernel
 simp [c_LenB64, I, w1, hs, w2]
 exact fin0
theorem LenB_15 : ECalls Tryz.prog 103 [.lit (.int .u64 15)] [] fun y H' => H' = [] ∧ y = I .i64 4 := by
 refine ecalls k_LenB ?_
 simp [c_LenB, I]
 refine call0 LenB64_15 (by simp) ?_
 rintro y H' ⟨rfl, rfl⟩
 refine ⟨.inl (by simp [I]), le_ok rfl, ?_⟩
 simp [I]
 exact fin0
theorem LenB64_16 : ECalls Tryz.prog 154 [.lit (.int .u64 16)] [] fun y H' => H' = [] ∧ y = I .i64 5 := by
 refine ecalls k_LenB64 ?_
 have w1 : IntKind.u8.wrap 16 = 16 := by decide +kernel
 have w2 : IntKind.i64.wrap 5 = 5 := by decide +kernel
 have hs : s_LenB64_0.data[16]? = some 5 := by decide +kernel
 simp [c_LenB64, I, w1, hs, w2]
 exact fin0
theorem LenB_16 : ECalls Tryz.prog 103 [.lit (.int .u64 16)] [] fun y H' => H' = [] ∧ y = I .i64 5 := by
 refine ecalls k_LenB ?_
 simp [c_LenB, I]
 refine call0 LenB64_16 (by simp) ?_
 rintro y H' ⟨rfl, rfl⟩
 refine ⟨.inl (by simp [I]), le_ok rfl, ?_⟩
 simp [I]
 exact fin0
theorem LenB_n (n : Nat) (h1 : 1 ≤ n) (h2 : n ≤ 16) : ∃ m : Int, 0 < m ∧ m ≤ 5 ∧ ECalls Tryz.prog 103 [.lit (.int .u64 (n : Int))] [] fun y H' => H' = [] ∧ y = I .i64 m := by
 rcases (by omega : n = 1 ∨ n = 2 ∨ n = 3 ∨ n = 4 ∨ n = 5 ∨ n = 6 ∨ n = 7 ∨ n = 8 ∨ n = 9 ∨ n = 10 ∨ n = 11 ∨ n = 12 ∨ n = 13 ∨ n = 14 ∨ n = 15 ∨ n = 16) with rfl | rfl | rfl | rfl | rfl | rfl | rfl | rfl | rfl | rfl | rfl | rfl | rfl | rfl | rfl | rfl
 ·exact ⟨1, by omega, by omega, LenB_1⟩
 ·exact ⟨2, by omega, by omega, LenB_2⟩
 ·exact ⟨2, by omega, by omega, LenB_3⟩
 ·exact ⟨3, by omega, by omega, LenB_4⟩
 ·exact ⟨3, by omega, by omega, LenB_5⟩
 ·exact ⟨3, by omega, by omega, LenB_6⟩
 ·exact ⟨3, by omega, by omega, LenB_7⟩
 ·exact ⟨4, by omega, by omega, LenB_8⟩
 ·exact ⟨4, by omega, by omega, LenB_9⟩
 ·exact ⟨4, by omega, by omega, LenB_10⟩
 ·exact ⟨4, by omega, by omega, LenB_11⟩
 ·exact ⟨4, by omega, by omega, LenB_12⟩
 ·exact ⟨4, by omega, by omega, LenB_13⟩
 ·exact ⟨4, by omega, by omega, LenB_14⟩
 ·exact ⟨4, by omega, by omega, LenB_15⟩
 ·exact ⟨5, by omega, by omega, LenB_16⟩
theorem ris_lt {l : List Int} (h : RisI l) : ∀ (d i : Nat) (a b : Int), l[i]? = some a → l[i + 1 + d]? = some b → a < b
 | 0, i, a, b, ha, hb => h i a b ha hb
 | d + 1, i, a, b, ha, hb => by
  have hlt : i + 1 + (d + 1) < l.length := lt_of_get hb
  obtain ⟨c, hc⟩ : ∃ c, l[i + 1]? = some c := ⟨l[i + 1], by simp [show i + 1 < l.length by omega]⟩
  have h1 := h i a c ha hc
  have h2 := ris_lt h d (i + 1) c b hc (by rw [← hb]; congr 1; omega)
  omega
def BXn (x : Int) : EO := .box 3 [.fz (.lit (.int .i64 x))]
theorem Ord2I_ok (l : List Int) (h : RisI l) (i j : Nat) (hij : i < j) (hj : j < l.length) (hn : l.length ≤ 1000) : ECalls Tryz.prog 182 [IL l, I .i64 i, I .i64 j, Ptr 0] [BXn 0] fun y H' => H' = [some (BXn 0)] ∧ y = .tup [.c (.fz (.lit (.int .i64 i))), .c (.fz (.lit (.int .i64 j)))] := by
 obtain ⟨a, ha⟩ : ∃ a, l[i]? = some a := ⟨l[i], by simp [show i < l.length by omega]⟩
 obtain ⟨b, hb⟩ : ∃ b, l[j]? = some b := ⟨l[j], by simp [hj]⟩
 have hab : ¬ b < a := by
  have := ris_lt h (j - i - 1) i a b ha (by rw [← hb]; congr 1; omega)
  omega
 have ga : ∀ h2, (intv l)[i]'h2 = [.lit (.int .i64 a)] := fun h2 => by rw [intv_at (by omega), ha]; rfl
 have gb : ∀ h2, (intv l)[j]'h2 = [.lit (.int .i64 b)] := fun h2 => by rw [intv_at (by omega), hb]; rfl
 have hi' : i < l.length := by omega
 refine ecalls k_Ord2I ?_
 simp [c_Ord2I, I, IL, Ptr, BXn, ga, gb, hi', hj]
 refine call0 (LessI_ok b a) (by simp [I]) ?_
 rintro y H' ⟨rfl, rfl⟩
 refine ⟨.inl (by simp), le_ok rfl, ?_⟩
 rw [decide_eq_false hab]
 simp [I, BXn]
 exact fin [] (by decide) rfl rfl (by simp [objsOut, BXn, show List.range 1 = [0] from rfl]) ⟨rfl, rfl⟩
theorem MedI_ok (l : List Int) (h : RisI l) (i j k : Nat) (hij : i < j) (hjk : j < k) (hk : k < l.length) (hn : l.length ≤ 1000) : ECalls Tryz.prog 175 [IL l, I .i64 i, I .i64 j, I .i64 k, Ptr 0] [BXn 0] fun y H' => H' = [some (BXn 0)] ∧ y = I .i64 j := by
 refine ecalls k_MedI ?_
 simp [c_MedI, I, IL, Ptr, BXn]
 refine callH [0] (Ord2I_ok l h i j hij (by omega) hn) (by simp [I, IL, Ptr]) (by simp [BXn]) (by simp) (by simp) (by simp) ?_
 rintro y H' ⟨rfl, rfl⟩
 refine ⟨.inl (by simp [BXn]), by simp, ?_⟩
 simp [I, IL, Ptr, BXn]
 refine callH [0] (Ord2I_ok l h j k hjk hk hn) (by simp [I, IL, Ptr]) (by simp [BXn]) (by simp) (by simp) (by simp) ?_
 rintro y H' ⟨rfl, rfl⟩
 refine ⟨.inl (by simp [BXn]), by simp, ?_⟩
 simp [I, IL, Ptr, BXn]
 refine callH [0] (Ord2I_ok l h i j hij (by omega) hn) (by simp [I, IL, Ptr]) (by simp [BXn]) (by simp) (by simp) (by simp) ?_
 rintro y H' ⟨rfl, rfl⟩
 refine ⟨.inl (by simp [BXn]), by simp, ?_⟩
 simp [I, IL, Ptr, BXn]
 exact fin [] (by decide) rfl rfl (by simp [objsOut, BXn, show List.range 1 = [0] from rfl]) ⟨rfl, rfl⟩
theorem ChpI_ok (l : List Int) (h : RisI l) (n : Nat) (hl : l.length = n) (h1 : 13 ≤ n) (h2 : n ≤ 16) : ∃ p : Int, ECalls Tryz.prog 148 [IL l, I .i64 0, I .i64 n] [] fun y H' => H' = [] ∧ y = .tup [.c (.fz (.lit (.int .i64 p))), .c (.fz (.lit (.int .i64 1)))] := by
 have key : ∀ q : Nat, 1 ≤ q → q ≤ 4 → 4 * q ≤ n → n < 4 * q + 4 → ECalls Tryz.prog 148 [IL l, I .i64 0, I .i64 n] [] fun y H' => H' = [] ∧ y = .tup [.c (.fz (.lit (.int .i64 ((q * 2 : Nat) : Int)))), .c (.fz (.lit (.int .i64 1)))] := by
  intro q q1 q2 q3 q4
  have d0 : IntKind.i64.wrap ((n : Int) - 0) = n := by rw [wrap_i64 (by omega) (by omega)]; omega
  have d0' : IntKind.i64.wrap (n : Int) = n := wrap_i64 (by omega) (by omega)
  have dq : ((n : Int).tdiv 4) = (q : Int) := by rw [Int.tdiv_eq_ediv_of_nonneg (by omega)]; omega
  have d1 : IntKind.i64.wrap ((n : Int).tdiv 4) = (q : Int) := by rw [dq, wrap_i64 (by omega) (by omega)]
  have d1q : IntKind.i64.wrap (q : Int) = (q : Int) := wrap_i64 (by omega) (by omega)
  have d2 : IntKind.i64.wrap ((q : Int) * 2) = ((q * 2 : Nat) : Int) := by rw [wrap_i64 (by omega) (by omega)]; omega
  have d3 : IntKind.i64.wrap ((q : Int) * 3) = ((q * 3 : Nat) : Int) := by rw [wrap_i64 (by omega) (by omega)]; omega
  have d2q : IntKind.i64.wrap ((q * 2 : Nat) : Int) = ((q * 2 : Nat) : Int) := wrap_i64 (by omega) (by omega)
  have d3q : IntKind.i64.wrap ((q * 3 : Nat) : Int) = ((q * 3 : Nat) : Int) := wrap_i64 (by omega) (by omega)
  have g8 : (8 : Int) ≤ n := by omega
  have g50 : ¬ (50 : Int) ≤ n := by omega
  have hM := MedI_ok l h q (q * 2) (q * 3) (by omega) (by omega) (by omega) (by omega)
  generalize hA : q * 2 = A at d2 d2q hM
  generalize hB : q * 3 = B at d3 d3q hM
  refine ecalls k_ChpI ?_
  simp [c_ChpI, I, IL, Ptr, d0, d0', dq, d1, d1q, d2, d3, d2q, d3q, g8, g50]
  refine callH [96] hM (by simp [I, IL, Ptr]) (by simp [BXn]) (by simp) (by simp) (by simp) ?_
  rintro y H' ⟨rfl, rfl⟩
  refine ⟨.inl (by simp [BXn]), by simp, ?_⟩
  simp [I, IL, Ptr, BXn]
  exact fin0
 rcases (by omega : n < 16 ∨ n = 16) with e | e
 ·exact ⟨_, key 3 (by omega) (by omega) (by omega) (by omega)⟩
 ·exact ⟨_, key 4 (by omega) (by omega) (by omega) (by omega)⟩
theorem PisI_ok (l : List Int) (h : RisI l) (n : Nat) (hl : l.length = n) (h1 : 1 ≤ n) (h2 : n ≤ 1000) : ECalls Tryz.prog 150 [IL l, I .i64 0, I .i64 n] [] fun y H' => H' = [] ∧ y = .lit (.bool true) := by
 have w0 : IntKind.i64.wrap 1 = 1 := by decide +kernel
 refine ecalls k_PisI ?_
 simp [c_PisI, I, IL, w0]
 refine eloop (α := Unit) (fun _ => True) (fun _ => 0) (fun _ => [IL l, I .i64 0, I .i64 n, xA, xA, xA, xA, I .i64 1, I .i64 0, xA, xA, xA, xA, xA, xA, xA, xA, xA, xA, xA, xA, xA, xA, xA, xA, xA, xA, xA, xA, xA, xA, xA, xA, xA, xA, xA, xA, xA, xA, xA, xA, xA, xA, xA, xA, xA, xA, xA, xA, xA, xA, xA, xA, xA, xA, xA, xA, xA, xA, xA, xA, xA, xA, xA, xA, xA, xA, xA, xA, xA, xA, xA, xA, xA, xA, xA, xA, xA, xA, xA, xA, xA, xA, xA, xA, xA, xA, xA, xA, xA, xA, xA, xA, xA, xA, xA, xA, xA, xA, xA, xA, xA, xA, xA, xA, xA, xA, xA, xA, xA, xA, xA, xA, xA, xA, xA, xA, xA, xA, xA, xA, xA, xA, xA, xA, xA, xA, xA, xA, xA, xA, xA, .any]) (fun _ => []) () []
  trivial (by simp [I, IL]) (by simp) (by simp) (by simp) (by simp) ?_
 rintro _ _
 simp [I, IL]
 refine eloop (α := Nat) (fun i => 1 ≤ i ∧ i ≤ n) (fun i => n - i) (fun i => [IL l, I .i64 0, I .i64 n, xA, xA, xA, xA, I .i64 i, I .i64 0, xA, xA, xA, xA, xA, xA, xA, xA, xA, xA, xA, xA, xA, xA, xA, xA, xA, xA, xA, xA, xA, xA, xA, xA, xA, xA, xA, xA, xA, xA, xA, xA, xA, xA, xA, xA, xA, xA, xA, xA, xA, xA, xA, xA, xA, xA, xA, xA, xA, xA, xA, xA, xA, xA, xA, xA, xA, xA, xA, xA, xA, xA, xA, xA, xA, xA, xA, xA, xA, xA, xA, xA, xA, xA, xA, xA, xA, xA, xA, xA, xA, xA, xA, xA, xA, xA, xA, xA, xA, xA, xA, xA, xA, xA, xA, xA, xA, xA, xA, xA, xA, xA, xA, xA, xA, xA, xA, xA, xA, xA, xA, xA, xA, xA, xA, xA, xA, xA, xA, xA, xA, xA, xA, .any]) (fun _ => []) 1 []
  ⟨by omega, by omega⟩ (by simp [I, IL]) (by simp) (by simp) (by simp) (by simp) ?_
 rintro i ⟨hi1, hi2⟩
 by_cases hlt : i < n
 ·have hli : (i : Int) < n := by omega
  have hll : i < l.length := by omega
  obtain ⟨p, rfl⟩ : ∃ p, i = p + 1 := ⟨i - 1, by omega⟩
  obtain ⟨a, ha⟩ : ∃ a, l[p]? = some a := ⟨l[p], by simp [show p < l.length by omega]⟩
  obtain ⟨b, hb⟩ : ∃ b, l[p + 1]? = some b := ⟨l[p + 1], by simp [hll]⟩
  have hab : ¬ b < a := by have := h p a b ha hb; omega
  have wj : IntKind.i64.wrap (((p + 1 : Nat) : Int) - 1) = (p : Int) := by rw [wrap_i64 (by omega) (by omega)]; omega
  have w1 : IntKind.i64.wrap (((p + 1 : Nat) : Int) + 1) = ((p + 1 + 1 : Nat) : Int) := wrap_i64 (by omega) (by omega)
  have ga : ∀ h2, (intv l)[p]'h2 = [.lit (.int .i64 a)] := fun h2 => by rw [intv_at (by omega), ha]; rfl
  have gb : ∀ h2, (intv l)[p + 1]'h2 = [.lit (.int .i64 b)] := fun h2 => by rw [intv_at (by omega), hb]; rfl
  have hpl : p < l.length := by omega
  generalize hje : p + 1 = j at *
  have n0 : ¬ ((j : Int) < 0) := by omega
  have n1 : ¬ ((p : Int) < 0) := by omega
  simp [I, IL, hli, hlt, wj, ga, gb, hpl, hll, n0, n1]
  refine call0 (LessI_ok b a) (by simp [I]) ?_
  rintro y H' ⟨rfl, rfl⟩
  refine ⟨.inl (by simp), le_ok rfl, ?_⟩
  rw [decide_eq_false hab]
  simp [I, IL, w1, -Int.natCast_add]
  exact round (j + 1) [] ⟨by omega, by omega⟩ (by omega) (by simp [I, IL]) (by simp) (by simp) (by simp) (by simp)
 ·have h3' : i = n := by omega
  subst h3'
  simp [I, IL]
  exact fin0
theorem PdqN_ok (l : List Int) (n : Nat) (k : Int) (hl : l.length = n) (h1 : 1 ≤ n) (h2 : n ≤ 16) (hk : 0 < k) (hr : n ≤ 12 ∨ RisI l) : ECalls Tryz.prog 102 [.v (.c (.row 0 n)), I .i64 0, I .i64 n, I .i64 k] [.row 3 1 (intv l)] fun y H' => H' = [some (.row 3 1 (intv (insN l)))] ∧ y = .tup [] := by
 have w0 : IntKind.i64.wrap (n : Int) = n := wrap_i64 (by omega) (by omega)
 have w0' : IntKind.i64.wrap ((n : Int) - 0) = n := by rw [wrap_i64 (by omega) (by omega)]; omega
 have hT : List.take n (intv l) = intv l := List.tkL (by simp [intv, hl])
 refine ecalls k_PdqI ?_
 simp [c_PdqI, I]
 refine eloop (α := Nat) (fun i => i = 0) (fun i => i) (fun i => [.v (.c (.row 0 n)), I .i64 0, I .i64 n, I .i64 k, xA, xA, xA, xA, .lit (.bool true), .lit (.bool true), xA, xA, xA, xA, xA, xA, xA, xA, xA, xA, xA, xA, xA, xA, xA, xA, xA, xA, xA, xA, xA, xA, xA, xA, xA, xA, xA, xA, xA, xA, xA, xA, xA, xA, xA, xA, xA, xA, xA, xA, xA, xA, xA, xA, xA, xA, xA, xA, xA, xA, xA, xA, xA, xA, xA, xA, xA, xA, xA, xA, xA, xA, xA, xA, xA, xA, xA, xA, xA, xA, xA, xA, xA, xA, xA, xA, xA, xA, xA, xA, xA, xA, xA, xA, xA, xA, xA, xA, xA, xA, xA, xA, xA, xA, xA, xA, xA, xA, xA, xA, xA, xA, xA, xA, xA, xA, xA, xA, xA, xA, xA, xA, xA, xA, xA, xA, xA, xA, xA, xA, xA, xA, xA, .any]) (fun _ => [some (.row 3 1 (intv l))]) 0 [0]
  rfl (by simp [I]) (by simp) (by simp) (by simp) (by simp) ?_
 rintro i rfl
 by_cases h12 : n ≤ 12
 ·have g12 : (n : Int) ≤ 12 := by omega
  simp [I, w0, w0', h12, g12]
  refine callH [0] (InsN_ok l n hl h1 (by omega)) (by simp [I]) (by simp) (by simp) (by simp) (by simp) ?_
  rintro y H' ⟨rfl, rfl⟩
  refine ⟨.inl (by simp), by simp, ?_⟩
  simp
  exact fin [] (by decide) rfl rfl (by simp [objsOut, show List.range 1 = [0] from rfl]) ⟨rfl, rfl⟩
 ·have hR := hr.resolve_left h12
  have g12 : ¬ (n : Int) ≤ 12 := by omega
  have gk : ¬ k = 0 := by omega
  obtain ⟨p, hP⟩ := ChpI_ok l hR n hl (by omega) h2
  rw [ins_ris hR]
  simp [I, w0, w0', h12, g12, gk]
  refine call0 hP (by simp [I, IL, hT]) ?_
  rintro y H' ⟨rfl, rfl⟩
  refine ⟨.inr ⟨rfl, by simp⟩, le_ok rfl, ?_⟩
  simp [I, w0, w0', h12, g12, gk]
  refine call0 (PisI_ok l hR n hl h1 (by omega)) (by simp [I, IL, hT]) ?_
  rintro y H' ⟨rfl, rfl⟩
  refine ⟨.inr ⟨rfl, by simp⟩, le_ok rfl, ?_⟩
  simp
  exact fin [] (by decide) rfl rfl (by simp [objsOut, show List.range 1 = [0] from rfl]) ⟨rfl, rfl⟩
theorem SortN_ok (l : List Int) (n : Nat) (hl : l.length = n) (h1 : 1 ≤ n) (h2 : n ≤ 16) (hr : n ≤ 12 ∨ RisI l) : ECalls Tryz.prog 57 [.v (.c (.row 0 n))] [.row 3 1 (intv l)] fun y H' => H' = [some (.row 3 1 (intv (insN l)))] ∧ y = .tup [] := by
 have w0 : IntKind.u64.wrap (n : Int) = n := by simp [IntKind.wrap, IntKind.bits, IntKind.signed]; omega
 obtain ⟨m, m1, m2, hm⟩ := LenB_n n h1 h2
 refine ecalls k_SortI ?_
 simp [c_SortI, I, w0]
 refine call0 hm (by simp) ?_
 rintro y H' ⟨rfl, rfl⟩
 refine ⟨.inl (by simp [I]), le_ok rfl, ?_⟩
 simp [I]
 refine callH [0] (PdqN_ok l n m hl h1 h2 m1 hr) (by simp [I]) (by simp) (by simp) (by simp) (by simp) ?_
 rintro y H' ⟨rfl, rfl⟩
 refine ⟨.inl (by simp), by simp, ?_⟩
 simp
 exact fin [] (by decide) rfl rfl (by simp [objsOut, show List.range 1 = [0] from rfl]) ⟨rfl, rfl⟩
def insI (K : List Int) (x : Int) : List Int := K.take (posI K x) ++ x :: K.drop (posI K x)
def yl2u : UL | _ => [xc 6 22 .sub 21 1, xI 7 23 1 20 22, xL 8 24 23, xb 9 25 .eql 19 24]
def yl2v : UL | _ => xM 0 16 0 :: xM 1 17 3 :: xI 2 18 1 16 17 :: xL 3 19 18 :: xM 4 20 0 :: xM 5 21 3 :: hid yl2u
def yl2w : UL | _ => [xM 0 26 0, xM 1 27 3, xQ 2 28 (.ssl 1 (.t 26) (some (.t 27)) none), xM 3 4 28]
def yl2z : UL | _ => [xc 6 41 .sub 40 1, xI 7 42 1 39 41, xL 8 43 42, xb 9 44 .neq 38 43]
def yl30 : UL | _ => xM 0 35 4 :: xM 1 36 5 :: xI 2 37 1 35 36 :: xL 3 38 37 :: xM 4 39 4 :: xM 5 40 5 :: hid yl2z
def yl31 : UL | _ => [xI 6 51 1 45 46, xN 7 (.sto 1 (.t 51) (.t 50))]
def yl32 : UL | _ => xM 0 45 0 :: xM 1 46 3 :: xM 2 47 4 :: xM 3 48 5 :: xI 4 49 1 47 48 :: xL 5 50 49 :: hid yl31
def yb36 : UB | _ => .seq (.block 3 (.seq (reg0 (hid yl30) 10) (.cond (.t 44) (.seq (reg0 (hid yl32) 8) (reg0 [xM 0 52 3, xc 1 53 .add 52 1, xM 2 3 53] 3)) .skip))) (reg0 [xM 0 33 5, xc 1 34 .add 33 1, xM 2 5 34] 3)
def yb37 : UB | _ => .seq (.seq (reg0 [xM 0 29 5, xM 1 30 4, xE 2 31 30, xb 3 32 .lss 29 31] 4) (.cond (.t 32) .skip (.exit 2))) (hid yb36)
def yl38 : UL | _ => [xM 0 57 0, xM 1 58 3, xQ 2 59 (.ssl 1 (.t 57) none (some (.t 58))), xM 3 2 59]
def yb39 : UB | _ => .seq (.seq (reg0 [xC 0 5 1] 1) (.block 2 (.loop (hid yb37)))) (.seq .bot (.seq (reg0 (hid yl38) 4) .ret))
def yb3a : UB | _ => .seq (reg0 (hid yl2v) 10) (.cond (.t 25) (.seq (reg0 (hid yl2w) 4) (hid yb39)) .skip)
def yb3c : UB | _ => .seq (.seq (reg0 [xM 0 10 3, xM 1 11 0, xE 2 12 11, xb 3 13 .lss 10 12] 4) (.cond (.t 13) .skip (.exit 0))) (.seq (.block 1 (hid yb3a)) (reg0 [xM 0 14 3, xc 1 15 .add 14 1, xM 2 3 15] 3))
def yb3e : UB | _ => .seq (.seq (reg0 [xC 0 3 1] 1) (.block 0 (.loop (hid yb3c)))) (.seq (reg0 [xM 0 60 0, xM 1 2 60] 2) .ret)
def yb3f : UB | _ => .seq (reg0 [xQ 0 2 (.mov (.k xS))] 1) (.seq (.seq (reg0 [xM 0 6 0, xE 1 7 6, xc 2 8 .lss 7 2] 3) (.cond (.t 8) (.seq (reg0 [xM 0 9 0, xM 1 2 9] 2) .ret) .skip)) (hid yb3e))
attribute [simp] yl2u yl2v yl2w yl2z yl30 yl31 yl32 yb36 yb37 yl38 yb39 yb3a yb3c yb3e yb3f
def c_CompI : EB × List QOp × Nat := ((hid yb3f), [(.mov (.t 2))], 61)
theorem k_CompI : cfun Tryz.prog 58 = some c_CompI := by kernel_rfl
def yl3j : UL | _ => [xM 0 8 3, xO 1 9 (.call 58 [.t 8]), xQ 2 10 (.build (([xS] : List Value) ++ zU8 ++ [xZ, xZ]) [(0, 1, .t 9)]), xO 3 11 (.fz (.q (.bsl 35 (([xS] : List Value) ++ zU8 ++ [xZ, xZ]) 1 [(0, .t 10)]))), xQ 4 12 (.build [xS] [(0, 1, .t 11)]), xN 5 (.fz (.sto 1 (.t 2) (.t 12)))]
def yb3l : UB | _ => .seq (reg0 [xQ 0 2 (.alloc 97 [xS])] 1) (.seq (reg0 [xM 0 4 0, xO 1 5 (.call 56 [.t 4]), xM 2 3 5] 3) (.seq (reg0 [xM 0 6 3, xO 1 7 (.call 57 [.t 6])] 2) (.seq (reg0 (hid yl3j) 6) .ret)))
attribute [simp] yl3j yb3l
def c_PAll : EB × List QOp × Nat := ((hid yb3l), [(.lda 1 (.t 2))], 13)
theorem k_PAll : cfun Tryz.prog 26 = some c_PAll := by kernel_rfl
def yl3q : UL | _ => [xQ 0 5 (.bsr 169 35 (([xS] : List Value) ++ zU8 ++ [xZ, xZ]) 0 []), xM 1 6 0, xO 2 7 (.app 169 35 72 (.t 5) (.t 6)), xM 3 2 7]
def yb3r : UB | _ => .seq (reg0 [xQ 0 2 (.mov (.k xS))] 1) (.seq (.seq (reg0 [xM 0 3 0, xO 1 4 (.nild false (.t 3))] 2) (.cond (.t 4) (.seq (reg0 [xQ 0 2 (.mov (.k xS))] 1) .ret) .skip)) (.seq (reg0 (hid yl3q) 4) .ret))
attribute [simp] yl3q yb3r
def c_CloneBr : EB × List QOp × Nat := ((hid yb3r), [(.mov (.t 2))], 8)
theorem k_CloneBr : cfun Tryz.prog 170 = some c_CloneBr := by kernel_rfl
def yl3x : UL | _ => [xL 6 19 18, xO 7 20 (.call 56 [.t 19]), xI 8 21 35 13 14, xF 9 22 0 21, xN 10 (.fz (.sto 1 (.t 22) (.t 20)))]
def yl3y : UL | _ => xM 0 13 3 :: xM 1 14 4 :: xM 2 15 3 :: xM 3 16 4 :: xI 4 17 35 15 16 :: xF 5 18 0 17 :: hid yl3x
def yl42 : UL | _ => [xM 0 24 3, xQ 1 25 (.build [xS] [(0, 1, .t 24)]), xN 2 (.fz (.sto 1 (.t 2) (.t 25)))]
def yb43 : UB | _ => .seq (.seq (reg0 [xM 0 8 3, xE 1 9 8, xC 2 10 0] 3) (.block 0 (.loop (.seq (reg0 [xb 0 11 .lss 10 9] 1) (.seq (.cond (.t 11) .skip (.exit 0)) (.seq (.block 1 (.seq (reg0 [xM 0 12 10, xM 1 4 12] 2) (reg0 (hid yl3y) 11))) (reg0 [xc 0 23 .add 10 1, xM 1 10 23] 2))))))) (.seq (reg0 (hid yl42) 3) .ret)
def yb44 : UB | _ => .seq (reg0 [xW 0 1 97 0, xQ 1 2 (.alloc 97 [xS])] 2) (.seq (reg0 [xF 0 5 0 1, xL 1 6 5, xO 2 7 (.call 170 [.t 6]), xM 3 3 7] 4) (hid yb43))
attribute [simp] yl3x yl3y yl42 yb43 yb44
def c_POwn : EB × List QOp × Nat := ((hid yb44), [(.lda 1 (.t 2))], 26)
theorem k_POwn : cfun Tryz.prog 144 = some c_POwn := by kernel_rfl
def yl46 : UL | _ => [xO 6 11 (.app 169 35 72 (.t 7) (.t 10)), xQ 7 12 (.build [xS] [(0, 1, .t 11)]), xN 8 (.fz (.sto 1 (.t 4) (.t 12)))]
def yl47 : UL | _ => xD 0 5 1 2 :: xD 3 8 1 3 :: ⟨1, (some 6), none, (.call 144 [.t 5]), [3]⟩ :: xQ 2 7 (.fgc 0 (.t 6)) :: ⟨4, (some 9), none, (.call 144 [.t 8]), [2]⟩ :: xQ 5 10 (.fgc 0 (.t 9)) :: hid yl46
def yb48 : UB | _ => .seq (reg0 [xW 0 2 97 0, xW 1 3 97 1, xQ 2 4 (.alloc 97 [xS])] 3) (.seq (reg1 (hid yl47) 9) .ret)
attribute [simp] yl46 yl47 yb48
def c_POr : EB × List QOp × Nat := ((hid yb48), [(.lda 1 (.t 4))], 13)
theorem k_POr : cfun Tryz.prog 101 = some c_POr := by kernel_rfl
@[simp] theorem rowsE_hc (l : List UInt8) : (hc l).flatMap rowsE = [] := by
 induction l with
 | nil => rfl
 | cons a r ih => exact ih
@[simp] theorem fzM_hc (H : Nat → Option EO) (d : List Nat) (l : List UInt8) : (hc l).map (fzM H d) = hc l := by
 induction l with
 | nil => rfl
 | cons a r ih =>
  show _ :: (hc r).map (fzM H d) = _
  rw [ih]
  rfl
theorem frzAll_hc (l : List UInt8) (r : List EC) : frzAll (hc l ++ r) = (frzAll r).map (hf l ++ ·) := by
 induction l with
 | nil => cases h : frzAll r <;> simp [hc, hf, h]
 | cons a t ih =>
  show ((some (FV.lit (.int .u8 a.toNat))).bind fun x => (frzAll (hc t ++ r)).map (x :: ·)) = _
  rw [ih]
  cases frzAll r <;> rfl
theorem bset (b : Bra) : FV.sl 1 (intv b.keys) :: List.tail (braF b) = braF b := rfl
theorem bset' (b : Bra) : FV.sl 1 (intv b.keys) :: List.drop 1 (braF b) = braF b := rfl
def KeysOK (ks : List Int) : Prop := 1 ≤ ks.length ∧ ks.length ≤ 16 ∧ (ks.length ≤ 12 ∨ RisI ks) ∧ RisI (insN ks) ∧ ks.Pairwise (· ≠ ·) ∧ ks.foldl insI [] = insN ks
def allB (ks : List Int) : List Bra := [⟨insN ks, hz, 0, 0⟩]
theorem ris_pw {l : List Int} (h : RisI l) : l.Pairwise (· < ·) := by
 rw [List.pairwise_iff_getElem]
 intro i j hi hj hij
 have := ris_lt h (j - i - 1) i l[i] l[j] (by simp [hi]) (by rw [show i + 1 + (j - i - 1) = j by omega]; simp [hj])
 exact this
theorem fold_ris : ∀ (l K : List Int), (K ++ l).Pairwise (· < ·) → l.foldl insI K = K ++ l
 | [], K, _ => by simp
 | a :: r, K, h => by
  have hlt : ∀ y ∈ K, y < a := fun y hy => (List.pairwise_append.1 h).2.2 y hy a (by simp)
  have hp : posI K a = K.length := by
   refine posI_eq (Nat.le_refl _) ?_ ?_
   ·intro k y _ hy; exact hlt y (List.mgE hy)
   ·intro y hy; simp at hy
  have e : insI K a = K ++ [a] := by
   unfold insI
   rw [hp, List.take_length, List.drop_length]
  rw [List.foldl_cons, e, fold_ris r (K ++ [a]) (by simpa using h)]
  simp
theorem keys_ris {ks : List Int} (h1 : 1 ≤ ks.length) (h2 : ks.length ≤ 16) (h : RisI ks) : KeysOK ks ∧ insN ks = ks := by
 have hp := ris_pw h
 have he := ins_ris h
 exact ⟨⟨h1, h2, .inr h, by rw [he]; exact h, hp.imp (fun h => by omega), by rw [he, fold_ris ks [] (by simpa using hp)]; rfl⟩, he⟩
theorem ris_two {a b : Int} (h : a < b) : RisI [a, b] := by
 intro i x y h1 h2
 cases i with
 | zero => simp at h1 h2; omega
 | succ i => simp at h2
theorem keys_two {a b : Int} (h : a ≠ b) : KeysOK [a, b] := by
 rcases (by omega : a < b ∨ b < a) with g | g
 ·exact (keys_ris (by simp) (by simp) (ris_two g)).1
 ·have e : insN [a, b] = [b, a] := by rw [ins_two, if_pos g]
  refine ⟨by simp, by simp, .inl (by simp), by rw [e]; exact ris_two g, by simp [h], ?_⟩
  rw [e]
  have g' : ¬ a < b := by omega
  simp [insI, posI, g', g, Int.le_of_lt g]
theorem CompI_ok (l : List Int) (n : Nat) (hl : l.length = n) (h1 : 1 ≤ n) (h2 : n ≤ 1000) (h : RisI l) : ECalls Tryz.prog 58 [.v (.c (.row 0 n))] [.row 3 1 (intv l)] fun y H' => H' = [some (.row 3 1 (intv l))] ∧ y = .v (.c (.row 0 n)) := by
 refine ecalls k_CompI ?_
 simp [c_CompI, I]
 by_cases c1 : n < 2
 ·have c1' : (n : Int) < 2 := by omega
  simp [c1, c1']
  exact fin [] (by decide) rfl rfl (by simp [objsOut, show List.range 1 = [0] from rfl]) ⟨rfl, rfl⟩
 have c1' : ¬ (n : Int) < 2 := by omega
 simp [c1, c1']
 refine eloop (α := Nat) (fun i => 1 ≤ i ∧ i ≤ n) (fun i => n - i) (fun i => [.v (.c (.row 0 n)), xA, xA, I .i64 i, xA, xA, xA, xA, xA, xA, xA, xA, xA, xA, xA, xA, xA, xA, xA, xA, xA, xA, xA, xA, xA, xA, xA, xA, xA, xA, xA, xA, xA, xA, xA, xA, xA, xA, xA, xA, xA, xA, xA, xA, xA, xA, xA, xA, xA, xA, xA, xA, xA, xA, xA, xA, xA, xA, xA, xA, .any]) (fun _ => [some (.row 3 1 (intv l))]) 1 [0]
  ⟨by omega, by omega⟩ (by simp [I]) (by simp) (by simp) (by simp) (by simp) ?_
 rintro i ⟨hi1, hi2⟩
 by_cases hlt : i < n
 ·have hli : (i : Int) < n := by omega
  have hll : i < l.length := by omega
  obtain ⟨p, rfl⟩ : ∃ p, i = p + 1 := ⟨i - 1, by omega⟩
  obtain ⟨a, ha⟩ : ∃ a, l[p]? = some a := ⟨l[p], by simp [show p < l.length by omega]⟩
  obtain ⟨b, hb⟩ : ∃ b, l[p + 1]? = some b := ⟨l[p + 1], by simp [hll]⟩
  have hab : ¬ b = a := by have := h p a b ha hb; omega
  have wj : IntKind.i64.wrap (((p + 1 : Nat) : Int) - 1) = (p : Int) := by rw [wrap_i64 (by omega) (by omega)]; omega
  have w1 : IntKind.i64.wrap (((p + 1 : Nat) : Int) + 1) = ((p + 1 + 1 : Nat) : Int) := wrap_i64 (by omega) (by omega)
  have ga : ∀ h2, (intv l)[p]'h2 = [.lit (.int .i64 a)] := fun h2 => by rw [intv_at (by omega), ha]; rfl
  have gb : ∀ h2, (intv l)[p + 1]'h2 = [.lit (.int .i64 b)] := fun h2 => by rw [intv_at (by omega), hb]; rfl
  have hpl : p < l.length := by omega
  have hpn : p < n := by omega
  have hpi : (p : Int) < n := by omega
  generalize hje : p + 1 = j at *
  have n0 : ¬ ((j : Int) < 0) := by omega
  have n1 : ¬ ((p : Int) < 0) := by omega
  simp [I, hli, hlt, wj, ga, gb, hpl, hll, hpn, hpi, n0, n1, hab, hl]
  simp [w1, -Int.natCast_add]
  exact round (j + 1) [0] ⟨by omega, by omega⟩ (by omega) (by simp [I]) (by simp) (by simp) (by simp) (by simp)
 ·have h3' : i = n := by omega
  subst h3'
  simp [I]
  exact fin [] (by decide) rfl rfl (by simp [objsOut, show List.range 1 = [0] from rfl]) ⟨rfl, rfl⟩
theorem PAll_ok (ks : List Int) (h : KeysOK ks) : ECalls Tryz.prog 26 [IL ks] [] fun y H' => H' = [] ∧ y = CNv (allB ks) := by
 obtain ⟨h1, h2, h3, h4, h5, h6⟩ := h
 have hil : (insN ks).length = ks.length := insN_len ks
 refine ecalls k_PAll ?_
 simp [c_PAll, IL]
 refine call0 (cloneI_ok ks (by omega)) (by simp [IL]) ?_
 rintro y H' ⟨rfl, rfl⟩
 refine ⟨.inl (by simp), by simp, ?_⟩
 simp
 refine callH [32] (SortN_ok ks ks.length rfl h1 h2 h3) (by simp) (by simp) (by simp) (by simp) (by simp) ?_
 rintro y H' ⟨rfl, rfl⟩
 refine ⟨.inl (by simp), by simp, ?_⟩
 simp
 refine callH [32] (CompI_ok (insN ks) ks.length hil h1 (by omega) h4) (by simp) (by simp) (by simp) (by simp) (by simp) ?_
 rintro y H' ⟨rfl, rfl⟩
 refine ⟨.inl (by simp), by simp, ?_⟩
 have tk : List.take ks.length (intv (insN ks)) = intv (insN ks) := List.tkL (by simp [hil])
 simp [tk, frzAll_hc]
 exact fin0
theorem CloneBr_ok (l : List Bra) (hn : l.length ≤ 100000000) : ECalls Tryz.prog 170 [.v (.c (.fz (.sl 35 (brav l))))] [] fun y H' => H' = [some (.row 169 35 (brav l))] ∧ y = .v (.c (.row 0 l.length)) := by
 refine ecalls k_CloneBr ?_
 simp [c_CloneBr]
 refine both (fun h => ?_) (fun _ => ?_)
 ·simp
  refine finW _ (weak_nilR 2 169 35 rfl (by omega)) ?_
  have hn : l = [] := by cases l <;> simp_all
  subst hn
  exact fin [64] (by decide) rfl rfl rfl ⟨by simp [brav], by simp⟩
 ·simp
  exact ⟨by omega, fin [80] (by decide) rfl rfl rfl ⟨rfl, by simp⟩⟩
theorem brav_set {l : List Bra} {i : Nat} {b : Bra} (h : l[i]? = some b) : (brav l).set i (braF b) = brav l := by
 unfold brav
 rw [← List.map_set]
 congr 1
 apply List.ext_getElem?
 intro j
 rw [List.getElem?_set]
 by_cases e : i = j
 ·subst e
  have hlt : i < l.length := lt_of_get h
  rw [if_pos rfl, if_pos hlt, h]
 ·rw [if_neg e]
theorem POwn_ok (l : List Bra) (hl : ∀ b ∈ l, b.ok) (hn : l.length ≤ 2000000) : ECalls Tryz.prog 144 [CNv l] [] fun y H' => H' = [some (.row 169 35 (brav l))] ∧ y = .v (.agg [.row 0 l.length]) := by
 refine ecalls k_POwn ?_
 simp [c_POwn, CNv]
 refine call0 (CloneBr_ok l (by omega)) (by simp) ?_
 rintro y H' ⟨rfl, rfl⟩
 refine ⟨.inl (by simp), by simp, ?_⟩
 simp
 refine eloop (α := Nat) (fun i => i ≤ l.length) (fun i => l.length - i)
  (fun i => [xA, xA, Ptr 0, .v (.c (.row 1 l.length)), xA, xA, xA, xA, xA, I .i64 l.length, I .i64 i, xA, xA, xA, xA, xA, xA, xA, xA, xA, xA, xA, xA, xA, xA, .any]) (fun _ => [some (.box 97 [.fz (.lit (.slice none 0 0))]), some (.row 169 35 (brav l))]) 0 [16, 64]
  (Nat.zero_le _) (by simp [Ptr, I]) (by simp) (by simp) (by simp) (by simp) ?_
 intro i hi
 simp [Ptr, I]
 refine alt (fun hlt => ?_) (fun hlt => ?_)
 ·have hln : i < l.length := by omega
  obtain ⟨b, hcb⟩ : ∃ b, l[i]? = some b := ⟨l[i], by simp [hln]⟩
  have hge : (brav l)[i]'(by simp [hln]) = braF b := gE (brav_get hcb)
  have hb := hl b (List.mgE hcb)
  have l0 := bc_len hb.2.1
  have l1 := bf_len hb.2.1
  have e0 := idx_of (bc_0 b) (by omega)
  have tk : List.take b.keys.length (intv b.keys) = intv b.keys := List.tkL (by simp)
  have w1 := wS (i := i) (by omega)
  simp [hln, hge, braF_fz, l0, e0]
  refine call0 (cloneI_ok b.keys hb.2.2.2.2) (by simp [IL]) ?_
  rintro y H' ⟨rfl, rfl⟩
  refine ⟨.inl (by simp), by simp, ?_⟩
  simp [hln, hge, braF_fz, l0, l1, e0, tk, bset, bset', brav_set hcb, w1, -Int.natCast_add]
  exact round (i + 1) [0, 1] (by omega) (by omega) (by simp [Ptr, I]) (by simp) (by simp) (by simp) (by simp)
 have hil : i = l.length := by omega
 subst hil
 simp
 exact fin [1] (by decide) rfl rfl rfl ⟨rfl, rfl⟩
theorem POr_ok (a b : List Bra) (ha : ∀ x ∈ a, x.ok) (hb : ∀ x ∈ b, x.ok) (hna : a.length ≤ 2000000) (hnb : b.length ≤ 2000000) : ECalls Tryz.prog 101 [CNv a, CNv b] [] fun y H' => H' = [] ∧ y = CNv (a ++ b) := by
 refine ecalls k_POr ?_
 simp [c_POr, CNv]
 refine call0 (POwn_ok a ha hna) (by simp [CNv]) ?_
 rintro y H' ⟨rfl, rfl⟩
 refine ⟨.inl (by simp), by simp, ?_⟩
 simp
 refine call0 (POwn_ok b hb hnb) (by simp [CNv]) ?_
 rintro y H' ⟨rfl, rfl⟩
 refine ⟨.inl (by simp), by simp, ?_⟩
 simp
 refine ⟨⟨by omega, by omega⟩, ?_⟩
 have tk : List.take b.length (brav b) = brav b := List.tkL (by simp)
 have tk2 : List.take (a.length + b.length) (brav a ++ brav b) = brav (a ++ b) := by
  have e : brav a ++ brav b = brav (a ++ b) := by simp [brav]
  rw [e, List.tkL (by simp)]
 rw [tk]
 refine finW _ (weak_frz (o := 144) (ty := 169) (es := 35) (xs := brav a ++ brav b) rfl) ?_
 exact fin [] (by decide) rfl rfl rfl ⟨rfl, by simp [tk2]⟩
end Go.Proofs.YtddcceahaigodaaGreatDoor
namespace Go.Proofs.YtddcceahaigodaaGreatDoor
open Go.RowKit Go.Extern.Stop Go.Stop Go.Extern
theorem grow_w (n : Nat) (hn : n ≤ 1000000000) (h1 : 0 < n) (w : World) : Calls Tryz.prog 178 #[.slice none 0 0, .int .i64 n] w fun e w' =>
  e = .returned (.slice (some ⟨w.heap.size, 0, none⟩) 0 (grownCap w n 0 5)) ∧ w' = w.drew.alloc (.cells (Builtin.zeroCells #[.int .u8 0] n ++ Builtin.zeroCells #[.int .u8 0] (grownCap w n 0 5 - n)) 5) := by
 have key : (Tryz.prog.info? 5).map (fun i => (i.zero, i.size, i.bytes)) = some (some (.int .u8 0), 1, 1) := by kernel_rfl
 obtain ⟨i, hi, hz, hs, hb⟩ : ∃ i, Tryz.prog.info? 5 = some i ∧ i.zero = some (.int .u8 0) ∧ i.size = 1 ∧ i.bytes = 1 := by
  cases h : Tryz.prog.info? 5 with
  | none => rw [h] at key; simp at key
  | some i => rw [h] at key; simp at key; exact ⟨i, rfl, key.1, key.2.1, key.2.2⟩
 have hr : ∀ ty, (Builtin.append_ #[124, 3] ty #[.slice none 0 0, .int .i64 n]).run Tryz.prog w = .ok (.slice (some ⟨w.heap.size, 0, none⟩) n (grownCap w n 0 5)) (w.drew.alloc (.cells (Builtin.zeroCells #[.int .u8 0] n ++ Builtin.zeroCells #[.int .u8 0] (grownCap w n 0 5 - n)) 5)) := fun ty =>
  Lib.run_append_nil_zeros w 124 3 ty 5 _ (.int .u8 0) .i64 .i64 Tryz.underlying124 Tryz.underlying3 hi hz n h1 (by omega) (by omega) (by rw [hb]; omega)
 have h2 : ¬ ((n : Int) < 0) := by omega
 have h4 : (n : Int) > 0 := by omega
 have h3 : wrap64 (n : Int) = (n : Int) := by unfold wrap64; omega
 have hGn : n ≤ grownCap w n 0 5 := grownCap_ge w _ _ _
 obtain ⟨G, hG⟩ : ∃ G, G = grownCap w n 0 5 := ⟨_, rfl⟩
 rw [← hG] at hr hGn ⊢
 go_enter Tryz.func178, Tryz.ntmps178
 go_wp2_with (at_builtin; refine Lib.wpList_append_run _ rfl _ _ _ _ rfl _ _ rfl rfl _ _ (hr _) ?_)
 all_goals (go_ret; exact ⟨rfl, rfl⟩)
open Go.EW in
theorem Grow_ok (n : Nat) (hn : n ≤ 1000000000) (h1 : 0 < n) : ECalls Tryz.prog 178 [.v (.c (.fz (.lit (.slice none 0 0)))), .v (.c (.fz (.lit (.int .i64 n))))] [] fun y H' => H' = [some (.row 5 1 [])] ∧ y = .v (.c (.row 0 0)) := by
 intro ρ Φ w vals r ha
 obtain ⟨v, vs, rfl, hv, h2⟩ := ha.cons_left
 obtain ⟨v2, vs2, rfl, hv2, h3⟩ := h2.cons_left
 obtain rfl := h3.nil_left
 have hv' : FR Φ w (.lit (.slice none 0 0)) v := hv
 have hv2' : FR Φ w (.lit (.int .i64 n)) v2 := hv2
 cases hv'
 cases hv2'
 refine (grow_w n hn h1 w).mono fun e w' ⟨he, hw⟩ => ?_
 subst hw
 obtain ⟨G, hG⟩ : ∃ G, G = grownCap w n 0 5 := ⟨_, rfl⟩
 have hGn : n ≤ G := by rw [hG]; exact grownCap_ge w _ _ _
 have hGm : G ≤ maxLen := by rw [hG]; exact grownCap_le_maxLen w _ _ _ (by simp [maxLen]; omega)
 rw [← hG] at he ⊢
 have hu : (fun o : Nat => o < ([] : List EO).length ∨ o = 0) = fun o => o < [some (EO.row 5 1 [])].length := by funext o; simp
 have hh : upd (ofL ([] : List EO)) 0 (some (EO.row 5 1 [])) = ofO [some (EO.row 5 1 [])] := by
  funext o
  rcases o with _ | o
  ·rfl
  ·simp [upd, ofL, ofO]
 have key := r.new (w' := w.drew.alloc (.cells (Builtin.zeroCells #[.int .u8 0] n ++ Builtin.zeroCells #[.int .u8 0] (G - n)) 5)) rfl rfl rfl (by simp) (fun b hb => by
   have hb' : b < w.heap.size := hb
   show (w.drew.heap.push _)[b]? = w.heap[b]?
   rw [Array.getElem?_push_lt (by simpa using hb')]
   simp [hb', heap_drew]) 0 (by simp) (by simp) (.row 5 1 []) (.slice (some ⟨w.heap.size, 0, none⟩) 0 G) (by intro b hb; simp [ft, EW.hb] at hb; subst hb; exact Nat.le_refl _) ?_
 ·have k1 := key.1
  rw [hh, hu] at k1
  exact ⟨_, _, _, _, _, he, ⟨rfl, rfl⟩, by simp, ⟨by simp, some ⟨w.heap.size, 0, none⟩, 0, G, by simp [upd], Nat.le_refl _, Nat.zero_le _, rfl⟩, k1⟩
 ·refine ⟨by decide, by simp, [], ⟨rfl, .inr ⟨w.heap.size, G, (Builtin.zeroCells #[.int .u8 0] n ++ Builtin.zeroCells #[.int .u8 0] (G - n)), rfl, Nat.zero_le _, ?_, Nat.zero_le _, hGm, ?_, by simp⟩⟩, All2.nil⟩
  ·show (w.drew.heap.push _)[w.heap.size]? = _
   rw [show w.heap.size = w.drew.heap.size from rfl, Array.getElem?_push_size]
  ·simp [Builtin.zeroCells]; omega
end Go.Proofs.YtddcceahaigodaaGreatDoor
namespace Go.Proofs.YtddcceahaigodaaGreatDoor
open Go Go.EW
set_option linter.unusedSimpArgs false
set_option linter.unusedVariables false
def yl4a : UL | _ => [xO 0 9 (.call 82 []), xQ 1 3 (.alloc 201 [(.pointer none)]), xN 2 (.sto 1 (.t 3) (.t 9))]
def yl4c : UL | _ => [xQ 12 23 (.bsl 1 [xZ] 4 [(0, .t 13), (1, .t 16), (2, .t 19), (3, .t 22)]), xO 13 24 (.clo (.t 11) [.t 23])]
def yl4d : UL | _ => xF 6 17 1 1 :: xQ 7 18 (.iad 2 1 (.t 17) (xK 1)) :: xL 8 19 18 :: xF 9 20 3 1 :: xL 10 21 20 :: xE 11 22 21 :: hid yl4c
def yl4e : UL | _ => xM 0 11 4 :: xF 1 12 0 1 :: xL 2 13 12 :: xF 3 14 1 1 :: xQ 4 15 (.iad 2 1 (.t 14) (xK 0)) :: xL 5 16 15 :: hid yl4d
def yl4h : UL | _ => [xI 0 30 36 26 28, xD 1 31 36 30, xQ 2 6 (.alloc 117 (([xZ, xZ, xZ, xZ] : List Value) ++ zU8)), xN 3 (.sto 36 (.t 6) (.t 31))]
def yl4i : UL | _ => [xL 6 38 37, xF 7 39 3 6, xL 8 40 39, xQ 9 41 (.bsl 1 [xZ] 4 [(0, .t 34), (1, .t 36), (2, .t 38), (3, .t 40)]), xO 10 42 (.clo (.t 32) [.t 41])]
def yl4j : UL | _ => xM 0 32 4 :: xF 1 33 0 6 :: xL 2 34 33 :: xF 3 35 1 6 :: xL 4 36 35 :: xF 5 37 2 6 :: hid yl4i
def yl4k : UL | _ => [xL 0 43 3, xF 1 44 4 6, xD 2 45 32 44, xO 3 46 (.call 85 [.t 43, .t 45])]
def yb4o : UB | _ => .seq (reg0 [xF 0 25 3 1, xL 1 26 25, xE 2 27 26, xC 3 28 0] 4) (.block 0 (.loop (.seq (reg0 [xb 0 29 .lss 28 27] 1) (.seq (.cond (.t 29) .skip (.exit 0)) (.seq (.block 1 (.seq (reg0 (hid yl4h) 4) (.seq (reg0 (hid yl4j) 11) (reg0 (hid yl4k) 4)))) (reg0 [xc 0 47 .add 28 1, xM 1 28 47] 2))))))
def yl4p : UL | _ => [xM 0 48 4, xF 1 49 4 1, xL 2 50 49, xE 3 51 50, xQ 4 52 (.bsl 1 [xZ] 1 [(0, .t 51)]), xO 5 53 (.clo (.t 48) [.t 52])]
def yl4s : UL | _ => [xI 0 59 3 55 57, xD 1 60 3 59, xQ 2 8 (.alloc 119 [xZ, xZ, xS]), xN 3 (.fz (.sto 3 (.t 8) (.t 60)))]
def yl4t : UL | _ => [xL 6 67 66, xE 7 68 67, xQ 8 69 (.bsl 1 [xZ] 3 [(0, .t 63), (1, .t 65), (2, .t 68)]), xO 9 70 (.clo (.t 61) [.t 69])]
def yl4u : UL | _ => xM 0 61 4 :: xF 1 62 0 8 :: xL 2 63 62 :: xF 3 64 1 8 :: xL 4 65 64 :: xF 5 66 2 8 :: hid yl4t
def yl4v : UL | _ => [xM 0 71 4, xF 1 72 2 8, xL 2 73 72, xO 3 74 (.clo (.t 71) [.t 73])]
def yb4z : UB | _ => .seq (reg0 [xF 0 54 4 1, xL 1 55 54, xE 2 56 55, xC 3 57 0] 4) (.block 2 (.loop (.seq (reg0 [xb 0 58 .lss 57 56] 1) (.seq (.cond (.t 58) .skip (.exit 2)) (.seq (.block 3 (.seq (reg0 (hid yl4s) 4) (.seq (reg0 (hid yl4u) 10) (reg0 (hid yl4v) 4)))) (reg0 [xc 0 75 .add 57 1, xM 1 57 75] 2))))))
def yb54 : UB | _ => .seq (reg0 [xW 0 1 42 0, xQ 1 2 (.mov (.k xS))] 2) (.seq (reg0 (hid yl4a) 3) (.seq (reg0 [xQ 0 10 (.mkf 83 [.t 3]), xM 1 4 10] 2) (.seq (reg0 (hid yl4e) 14) (.seq (hid yb4o) (.seq (reg0 (hid yl4p) 6) (.seq (hid yb4z) (.seq (reg0 [xL 0 76 3, xO 1 77 (.call 86 [.t 76]), xM 2 2 77] 3) .ret)))))))
attribute [simp] yl4a yl4c yl4d yl4e yl4h yl4i yl4j yl4k yb4o yl4p yl4s yl4t yl4u yl4v yb4z yb54
def c_Encode : EB × List QOp × Nat := ((hid yb54), [(.mov (.t 2))], 78)
theorem k_Encode : cfun Tryz.prog 37 = some c_Encode := by kernel_rfl
def yl58 : UL | _ => [xL 0 11 1, xM 1 12 4, xQ 2 13 (.cnv .u64 (.t 12)), xO 3 14 (.call 84 [.t 11, .t 13])]
def yb5c : UB | _ => .seq (reg0 [xM 0 5 0, xE 1 6 5, xC 2 7 0] 3) (.block 0 (.loop (.seq (reg0 [xb 0 8 .lss 7 6] 1) (.seq (.cond (.t 8) .skip (.exit 0)) (.seq (.block 1 (.seq (reg0 [xI 0 9 1 5 7, xL 1 10 9, xM 2 4 10] 3) (reg0 (hid yl58) 4))) (reg0 [xc 0 15 .add 7 1, xM 1 7 15] 2))))))
attribute [simp] yl58 yb5c
def c_put : EB × List QOp × Nat := ((hid yb5c), [], 16)
theorem k_put : cfun Tryz.prog 83 = some c_put := by kernel_rfl
def u64n (n : Int) : Nat := (n % 18446744073709551616).toNat
theorem u64n_lt (n : Int) : u64n n < 18446744073709551616 := by unfold u64n; omega
theorem wrap_u64n (n : Int) : IntKind.u64.wrap n = (u64n n : Int) := by
 simp [IntKind.wrap, IntKind.bits, IntKind.signed, u64n]
 omega
def uB (n : Int) : List UInt8 := uintB (u64n n)
def usB (l : List Int) : List UInt8 := l.flatMap uB
def payB (p : Pay) : List UInt8 := usB [p.id, p.fr, p.am, p.af] ++ p.lock
def holB (h : Hol) : List UInt8 := usB [h.id, h.am, (h.keys.length : Int)] ++ usB h.keys
def encS (s : Sta) : List UInt8 := usB [s.num, s.h0, s.h1, (s.pays.length : Int)] ++ s.pays.flatMap payB ++ usB [(s.holds.length : Int)] ++ s.holds.flatMap holB
theorem uB_len (n : Int) : (uB n).length ≤ 9 := by
 have := nb_8 (u64n_lt n)
 simp [uB, uintB, dg_len]; omega
theorem usB_len : ∀ (l : List Int), (usB l).length ≤ 9 * l.length
 | [] => by simp [usB]
 | n :: r => by
  have h1 := uB_len n
  have h2 := usB_len r
  have : usB (n :: r) = uB n ++ usB r := by simp [usB]
  rw [this, List.length_append, List.length_cons]
  omega
theorem usB_snoc (l : List Int) (n : Int) : usB (l ++ [n]) = usB l ++ uB n := by simp [usB]
def Sta.small (s : Sta) : Prop := s.pays.length ≤ 1000 ∧ s.holds.length ≤ 1000 ∧ ∀ h ∈ s.holds, h.keys.length ≤ 1000
theorem payB_len {p : Pay} (h : p.lock.length = 32) : (payB p).length ≤ 68 := by
 have := usB_len [p.id, p.fr, p.am, p.af]
 simp [payB] at *; omega
theorem holB_len {p : Hol} (h : p.keys.length ≤ 1000) : (holB p).length ≤ 9100 := by
 have h1 := usB_len [p.id, p.am, (p.keys.length : Int)]
 have h2 := usB_len p.keys
 simp [holB] at *; omega
theorem flat_len {α : Type} {f : α → List UInt8} {k : Nat} : ∀ {l : List α}, (∀ x ∈ l, (f x).length ≤ k) → (l.flatMap f).length ≤ k * l.length
 | [], _ => by simp
 | x :: r, h => by
  have h1 := h x (by simp)
  have h2 := flat_len (l := r) (fun y hy => h y (by simp [hy]))
  rw [List.flatMap_cons, List.length_append, List.length_cons, Nat.mul_succ]
  omega
def PO (r : Nat) : EO := .box 201 [.ptr r 0]
def PutV (o : Nat) : EV := .v (.c (.clo 83 [(o, 0)]))
theorem put_ok (bs : List UInt8) (l : List Int) (hl : l.length ≤ 10000000) (hb : bs.length + 9 * l.length ≤ 800000000) :
  ECalls Tryz.prog 83 [IL l, Ptr 0] [PO 1, WO 2 bs, RO bs] fun y H' => H' = [some (PO 1), some (WO 3 (bs ++ usB l)), none, some (RO (bs ++ usB l))] ∧ y = .tup [] := by
 refine ecalls k_put ?_
 simp [c_put, IL, Ptr]
 refine eloop (α := Nat) (fun i => i ≤ l.length) (fun i => l.length - i)
  (fun i => [xA, Ptr 0, xA, xA, xA, IL l, I .i64 l.length, I .i64 i, xA, xA, xA, xA, xA, xA, xA, .any]) (fun i => [some (PO 1), some (WO 3 (bs ++ usB (l.take i))), none, some (RO (bs ++ usB (l.take i)))]) 0 [0, 1, 2, 2]
  (Nat.zero_le _) (by simp [Ptr, I, IL]) (by simp [PO, WO, RO, usB]) (by simp) (by decide) (by simp) ?_
 intro i hi
 have hle := usB_len (l.take i)
 have hlt' : (l.take i).length = i := by simp; omega
 simp [Ptr, I, IL]
 refine alt (fun hlt => ?_) (fun hlt => ?_)
 ·obtain ⟨k, hc⟩ : ∃ k, l[i]? = some k := ⟨l[i], by simp [hlt]⟩
  have hcb := intv_get hc
  have hts : l.take (i + 1) = l.take i ++ [k] := by rw [List.take_add_one, hc]; rfl
  have w1 := wS (i := i) (by omega)
  simp [hcb, PO, wrap_u64n]
  refine callH [1, 3] (WUint_ok (bs ++ usB (l.take i)) (u64n k) (u64n_lt k) (by simp; omega)) (by simp [Ptr, I]) (by simp [WO, RO]) (by simp) (by simp [WO]) (by simp) ?_
  rintro y H' ⟨rfl, rfl⟩
  refine ⟨.inl (by simp), le_ok rfl, ?_⟩
  simp [w1, WO, RO, -Int.natCast_add]
  exact round (i + 1) [0, 1, 2, 116] (by omega) (by omega) (by simp) (by simp [hts, usB_snoc, uB, PO, WO, RO]) (by simp) (by decide) (by simp)
 ·have hil : i = l.length := by omega
  subst hil
  simp
  exact fin [3] (by decide) rfl rfl rfl ⟨by simp [PO, WO, RO], rfl⟩
theorem put_body : bodyOK Tryz.prog 83 = true := by kernel_rfl
def pB (l : List Pay) : List UInt8 := l.flatMap payB
def hB (l : List Hol) : List UInt8 := l.flatMap holB
theorem pB_snoc (l : List Pay) (p : Pay) : pB (l ++ [p]) = pB l ++ payB p := by simp [pB]
theorem hB_snoc (l : List Hol) (p : Hol) : hB (l ++ [p]) = hB l ++ holB p := by simp [hB]
def headB (s : Sta) : List UInt8 := usB [s.num, s.h0, s.h1, (s.pays.length : Int)]
def midB (s : Sta) : List UInt8 := headB s ++ pB s.pays ++ usB [(s.holds.length : Int)]
theorem encS_eq (s : Sta) : encS s = midB s ++ hB s.holds := rfl
theorem Encode_ok (s : Sta) (hs : s.ok) (hm : s.small) : ECalls Tryz.prog 37 [SV s] [] fun y H' => H' = [] ∧ y = Bs (encS s) := by
 obtain ⟨ok1, ok2, ok3, ok4, ok5, ok6, ok7⟩ := id hs
 obtain ⟨m1, m2, m3⟩ := hm
 have lh : (headB s).length ≤ 36 := usB_len [s.num, s.h0, s.h1, (s.pays.length : Int)]
 have lp : ∀ i, (pB (s.pays.take i)).length ≤ 68000 := by
  intro i
  have h1 := flat_len (f := payB) (k := 68) (l := s.pays.take i) (fun p hp => payB_len (ok4 p (List.mem_of_mem_take hp)).2.2.2.2)
  have h2 : (s.pays.take i).length ≤ 1000 := by simp; omega
  unfold pB; omega
 have lq : (pB s.pays).length ≤ 68000 := by have := lp s.pays.length; rwa [List.take_length] at this
 have lm : (midB s).length ≤ 70000 := by
  have := usB_len [(s.holds.length : Int)]
  simp only [midB, List.length_append]
  simp only [List.length_cons, List.length_nil] at this
  omega
 have lk : ∀ i, (hB (s.holds.take i)).length ≤ 9100000 := by
  intro i
  have h1 := flat_len (f := holB) (k := 9100) (l := s.holds.take i) (fun p hp => holB_len (m3 p (List.mem_of_mem_take hp)))
  have h2 : (s.holds.take i).length ≤ 1000 := by simp; omega
  unfold hB; omega
 refine ecalls k_Encode ?_
 simp [c_Encode, SV, staC]
 refine call0 New_ok rfl ?_
 rintro y H' ⟨rfl, rfl⟩
 refine ⟨.inl rfl, le_ok rfl, ?_⟩
 simp [Ptr, WO, RO]
 refine ⟨put_body, ?_⟩
 refine callH [48, 32, 33] (put_ok [] [s.num, s.h0, s.h1, (s.pays.length : Int)] (by simp) (by simp)) (by simp [IL, intv, Ptr]) (by simp [PO, WO, RO]) (by simp) (by simp) (by simp) ?_
 rintro y H' ⟨rfl, rfl⟩
 refine ⟨.inl (by simp), le_ok rfl, ?_⟩
 simp [PO, WO, RO]
 refine eloop (α := Nat) (fun i => i ≤ s.pays.length) (fun i => s.pays.length - i)
  (fun i => [xA, Ptr 0, xA, Ptr 1, PutV 1, xA, xA, xA, xA, xA, xA, xA, xA, xA, xA, xA, xA, xA, xA, xA, xA, xA, xA, xA, xA, xA, PL s.pays, I .i64 s.pays.length, I .i64 i, xA, xA, xA, xA, xA, xA, xA, xA, xA, xA, xA, xA, xA, xA, xA, xA, xA, xA, xA, xA, xA, xA, xA, xA, xA, xA, xA, xA, xA, xA, xA, xA, xA, xA, xA, xA, xA, xA, xA, xA, xA, xA, xA, xA, xA, xA, xA, xA, .any]) (fun i => [some (.box 42 (staC s)), some (PO 2), some (WO 3 (headB s ++ pB (s.pays.take i))), some (RO (headB s ++ pB (s.pays.take i)))]) 0 [0, 48, 32, 320]
  (Nat.zero_le _) (by simp [Ptr, I, PL, PutV]) (by simp [PO, WO, RO, pB, headB, staC]) (by simp) (by simp) (by simp) ?_
 intro i hi
 have lpi := lp i
 simp [Ptr, I, PL, PutV, staC]
 refine alt (fun hlt => ?_) (fun hlt => ?_)
 ·obtain ⟨p, hc⟩ : ∃ p, s.pays[i]? = some p := ⟨s.pays[i], by simp [hlt]⟩
  have hpo := ok4 p (List.mgE hc)
  have hl32 := hpo.2.2.2.2
  have ht : p.lock.take 32 = p.lock := List.tkL (by omega)
  have hcb := payv_get hc
  have w2 := wS (i := i) (by omega)
  have l4 := usB_len [p.id, p.fr, p.am, p.af]
  simp only [List.length_cons, List.length_nil] at l4
  simp [hcb, payF, hl32, ht]
  refine ⟨put_body, ?_⟩
  refine callH [1, 2, 3] (put_ok (headB s ++ pB (s.pays.take i)) [p.id, p.fr, p.am, p.af] (by simp) (by simp; omega)) (by simp [IL, intv, Ptr]) (by simp [PO, WO, RO]) (by simp) (by simp [PO, WO]) (by simp) ?_
  rintro y H' ⟨rfl, rfl⟩
  refine ⟨.inl (by simp), le_ok rfl, ?_⟩
  simp [PO, WO, RO, hl32, ht]
  refine callH [2, 244] (WHash_ok (headB s ++ pB (s.pays.take i) ++ usB [p.id, p.fr, p.am, p.af]) p.lock (by simp; omega) hl32) (by simp [Ptr, Ag]) (by simp [WO, RO]) (by simp) (by simp) (by simp) ?_
  rintro y H' ⟨rfl, rfl⟩
  refine ⟨.inl (by simp), le_ok rfl, ?_⟩
  simp [w2, WO, RO, -Int.natCast_add]
  have hsn : pB (s.pays.take (i + 1)) = pB (s.pays.take i) ++ (usB [p.id, p.fr, p.am, p.af] ++ p.lock) := by rw [take_s hc, pB_snoc]; rfl
  exact round (i + 1) [0, 1, 2, 308] (by omega) (by omega) (by simp) (by simp [hsn, PO, WO, RO] <;> omega) (by simp) (by simp) (by simp)
 have hil : i = s.pays.length := by omega
 subst hil
 rw [List.take_length] at lpi ⊢
 simp
 refine ⟨put_body, ?_⟩
 have l1 := usB_len [(s.holds.length : Int)]
 simp only [List.length_cons, List.length_nil] at l1
 refine callH [1, 2, 3] (put_ok (headB s ++ pB s.pays) [(s.holds.length : Int)] (by simp) (by simp; omega)) (by simp [IL, intv, Ptr]) (by simp [PO, WO, RO]) (by simp) (by simp [PO, WO]) (by simp) ?_
 rintro y H' ⟨rfl, rfl⟩
 refine ⟨.inl (by simp), le_ok rfl, ?_⟩
 simp [PO, WO, RO]
 refine eloop (α := Nat) (fun i => i ≤ s.holds.length) (fun i => s.holds.length - i)
  (fun i => [xA, xA, xA, Ptr 0, PutV 0, xA, xA, xA, xA, xA, xA, xA, xA, xA, xA, xA, xA, xA, xA, xA, xA, xA, xA, xA, xA, xA, xA, xA, xA, xA, xA, xA, xA, xA, xA, xA, xA, xA, xA, xA, xA, xA, xA, xA, xA, xA, xA, xA, xA, xA, xA, xA, xA, xA, xA, HL s.holds, I .i64 s.holds.length, I .i64 i, xA, xA, xA, xA, xA, xA, xA, xA, xA, xA, xA, xA, xA, xA, xA, xA, xA, xA, xA, .any]) (fun i => [some (PO 1), some (WO 2 (midB s ++ hB (s.holds.take i))), some (RO (midB s ++ hB (s.holds.take i)))]) 0 [1, 2, 100]
  (Nat.zero_le _) (by simp [Ptr, I, HL, PutV]) (by simp [PO, WO, RO, hB, midB] <;> omega) (by simp) (by simp) (by simp) ?_
 intro i hi
 have lki := lk i
 simp [Ptr, I, HL, PutV]
 refine alt (fun hlt => ?_) (fun hlt => ?_)
 ·obtain ⟨p, hc⟩ : ∃ p, s.holds[i]? = some p := ⟨s.holds[i], by simp [hlt]⟩
  have hk := m3 p (List.mgE hc)
  have hcb := holv_get hc
  have w2 := wS (i := i) (by omega)
  have l3 := usB_len [p.id, p.am, (p.keys.length : Int)]
  have l5 := usB_len p.keys
  simp only [List.length_cons, List.length_nil] at l3
  simp [hcb, holF]
  refine ⟨put_body, ?_⟩
  refine callH [0, 1, 2] (put_ok (midB s ++ hB (s.holds.take i)) [p.id, p.am, (p.keys.length : Int)] (by simp) (by simp; omega)) (by simp [IL, intv, Ptr]) (by simp [PO, WO, RO]) (by simp) (by simp [PO, WO]) (by simp) ?_
  rintro y H' ⟨rfl, rfl⟩
  refine ⟨.inl (by simp), le_ok rfl, ?_⟩
  simp [PO, WO, RO]
  refine ⟨put_body, ?_⟩
  refine callH [0, 1, 227] (put_ok (midB s ++ hB (s.holds.take i) ++ usB [p.id, p.am, (p.keys.length : Int)]) p.keys (by omega) (by simp; omega)) (by simp [IL, Ptr]) (by simp [PO, WO, RO]) (by simp) (by simp [PO, WO]) (by simp) ?_
  rintro y H' ⟨rfl, rfl⟩
  refine ⟨.inl (by simp), le_ok rfl, ?_⟩
  simp [w2, PO, WO, RO, -Int.natCast_add]
  have hsn : hB (s.holds.take (i + 1)) = hB (s.holds.take i) ++ (usB [p.id, p.am, (p.keys.length : Int)] ++ usB p.keys) := by rw [take_s hc, hB_snoc]; rfl
  exact round (i + 1) [0, 1, 291] (by omega) (by omega) (by simp) (by simp [hsn, PO, WO, RO] <;> omega) (by simp) (by simp) (by simp)
 have hil : i = s.holds.length := by omega
 subst hil
 rw [List.take_length] at lki ⊢
 simp [PO, WO, RO]
 refine callH [1, 2] (WDone_ok (midB s ++ hB s.holds) (by simp; omega)) (by simp [Ptr]) (by simp [WO, RO]) (by simp) (by simp) (by simp) ?_
 rintro y H' ⟨rfl, rfl⟩
 refine ⟨.inl (by simp), le_ok rfl, ?_⟩
 simp [R, RO, WO]
 refine finW _ (weak_frz (o := 35) (ty := 5) (es := 1) (xs := bsv (midB s ++ hB s.holds)) rfl) ?_
 exact fin [] (by decide) rfl rfl rfl ⟨rfl, by simp [Bs, encS_eq, List.tkL]⟩
end Go.Proofs.YtddcceahaigodaaGreatDoor
