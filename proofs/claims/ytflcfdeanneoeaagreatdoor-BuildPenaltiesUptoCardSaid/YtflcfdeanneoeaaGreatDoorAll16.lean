import Derived.Test.YtflcfdeanneoeaaGreatDoorAll14
import Derived.Test.YtflcfdeanneoeaaGreatDoorAll15
set_option maxHeartbeats 64000000
namespace Go.Proofs.YtflcfdeanneoeaaGreatDoor
open Go Go.EW
set_option linter.unusedSimpArgs false
set_option linter.unusedVariables false
@[simp] def ylgx : UL | _ => [xQ 0 1 (.box 145 (.t 0)), xQ 1 2 (.mov (xK 0))]
@[simp] def ylgy : UL | _ => [xG 6 13 11 false (.ldc (.t 12)), xG 7 14 11 false (.len (.t 13)), xG 8 15 11 false (.bin .gtr (.t 14) (xK 8)), xQ 9 16 (.pick (.t 11) (.k (.bool true)) (.t 15))]
@[simp] def ylgz : UL | _ => xQ 0 7 (.fad 0 (.t 1)) :: xQ 1 8 (.ldc (.t 7)) :: xQ 2 9 (.len (.t 8)) :: xQ 3 10 (.bin .lss (.t 9) (xK 1)) :: xM 4 11 10 :: xG 5 12 11 false (.fad 0 (.t 1)) :: hid ylgy
@[simp] def ylh0 : UL | _ => [xQ 0 2 (.mov (xK 1))]
@[simp] def ybh1 : UB | _ => .seq (reg0 (hid ylgz) 10) (.cond (.t 16) (.seq (reg0 (hid ylh0) 1) .ret) .skip)
@[simp] def ylh2 : UL | _ => [xQ 0 3 (.mov (xK 0))]
@[simp] def ylh3 : UL | _ => [xM 0 17 3, xQ 1 18 (.fad 0 (.t 1)), xQ 2 19 (.ldc (.t 18)), xQ 3 20 (.len (.t 19)), xQ 4 21 (.bin .lss (.t 17) (.t 20))]
@[simp] def ylh4 : UL | _ => [xN 6 (.fz (.sto 35 (.t 4) (.t 28)))]
@[simp] def ylh5 : UL | _ => xQ 0 24 (.fad 0 (.t 1)) :: xQ 1 25 (.ldc (.t 24)) :: xM 2 26 3 :: xQ 3 27 (.isl 35 (.t 25) (.t 26)) :: xQ 4 28 (.lda 35 (.t 27)) :: xQ 5 4 (.alloc 150 (([xS] : List Value) ++ zU8 ++ [xZ, xZ])) :: hid ylh4
@[simp] def ylh6 : UL | _ => [xQ 18 47 (.pick (.t 43) (.k (.bool true)) (.t 46)), xM 19 48 47, xG 20 49 48 false (.fad 34 (.t 4)), xG 21 50 48 false (.ldc (.t 49)), xG 22 51 48 false (.bin .gtr (.t 50) (xK 65536)), xQ 23 52 (.pick (.t 48) (.k (.bool true)) (.t 51))]
@[simp] def ylh7 : UL | _ => xG 12 41 38 false (.bin .gtr (.t 40) (xK 1099511627776)) :: xQ 13 42 (.pick (.t 38) (.k (.bool true)) (.t 41)) :: xM 14 43 42 :: xG 15 44 43 false (.fad 34 (.t 4)) :: xG 16 45 43 false (.ldc (.t 44)) :: xG 17 46 43 false (.bin .lss (.t 45) (xK 0)) :: hid ylh6
@[simp] def ylh8 : UL | _ => xG 6 35 33 false (.ldc (.t 34)) :: xG 7 36 33 false (.bin .lss (.t 35) (xK 0)) :: xQ 8 37 (.pick (.t 33) (.k (.bool true)) (.t 36)) :: xM 9 38 37 :: xG 10 39 38 false (.fad 33 (.t 4)) :: xG 11 40 38 false (.ldc (.t 39)) :: hid ylh7
@[simp] def ylh9 : UL | _ => xQ 0 29 (.fad 0 (.t 4)) :: xQ 1 30 (.ldc (.t 29)) :: xQ 2 31 (.len (.t 30)) :: xQ 3 32 (.bin .lss (.t 31) (xK 1)) :: xM 4 33 32 :: xG 5 34 33 false (.fad 33 (.t 4)) :: hid ylh8
@[simp] def ylha : UL | _ => [xQ 0 2 (.mov (xK 1))]
@[simp] def ybhb : UB | _ => .seq (reg0 (hid ylh9) 24) (.cond (.t 52) (.seq (reg0 (hid ylha) 1) .ret) .skip)
@[simp] def ylhc : UL | _ => [xQ 0 5 (.mov (.k (.int .i64 (-1))))]
@[simp] def ylhd : UL | _ => [xQ 0 6 (.mov (xK 0))]
@[simp] def ylhe : UL | _ => [xM 0 53 6, xQ 1 54 (.fad 0 (.t 4)), xQ 2 55 (.ldc (.t 54)), xQ 3 56 (.len (.t 55)), xQ 4 57 (.bin .lss (.t 53) (.t 56))]
@[simp] def ylhf : UL | _ => [xG 12 72 67 false (.ldc (.t 71)), xG 13 73 67 false (.bin .gtr (.t 72) (xK 15)), xQ 14 74 (.pick (.t 67) (.k (.bool true)) (.t 73))]
@[simp] def ylhg : UL | _ => xQ 6 66 (.bin .leq (.t 64) (.t 65)) :: xM 7 67 66 :: xG 8 68 67 false (.fad 0 (.t 4)) :: xG 9 69 67 false (.ldc (.t 68)) :: xG 10 70 67 false (.mov (.t 6)) :: xG 11 71 67 false (.isl 1 (.t 69) (.t 70)) :: hid ylhf
@[simp] def ylhh : UL | _ => xQ 0 60 (.fad 0 (.t 4)) :: xQ 1 61 (.ldc (.t 60)) :: xM 2 62 6 :: xQ 3 63 (.isl 1 (.t 61) (.t 62)) :: xQ 4 64 (.ldc (.t 63)) :: xM 5 65 5 :: hid ylhg
@[simp] def ylhi : UL | _ => [xQ 0 2 (.mov (xK 1))]
@[simp] def ybhj : UB | _ => .seq (reg0 (hid ylhh) 15) (.cond (.t 74) (.seq (reg0 (hid ylhi) 1) .ret) .skip)
@[simp] def ylhk : UL | _ => [xQ 0 75 (.fad 0 (.t 4)), xQ 1 76 (.ldc (.t 75)), xM 2 77 6, xQ 3 78 (.isl 1 (.t 76) (.t 77)), xQ 4 79 (.ldc (.t 78)), xM 5 5 79]
@[simp] def ylhl : UL | _ => [xM 0 58 6, xQ 1 59 (.bin .add (.t 58) (xK 1)), xM 2 6 59]
@[simp] def ybhm : UB | _ => .seq (.block 3 (.seq (hid ybhj) (reg0 (hid ylhk) 6))) (reg0 (hid ylhl) 3)
@[simp] def ybhn : UB | _ => .seq (.seq (reg0 (hid ylhe) 5) (.cond (.t 57) .skip (.exit 2))) (hid ybhm)
@[simp] def ybho : UB | _ => .seq (reg0 (hid ylhc) 1) (.seq (reg0 (hid ylhd) 1) (.block 2 (.loop (hid ybhn))))
@[simp] def ybhp : UB | _ => .seq (reg0 (hid ylh5) 7) (.seq (hid ybhb) (hid ybho))
@[simp] def ylhq : UL | _ => [xM 0 22 3, xQ 1 23 (.bin .add (.t 22) (xK 1)), xM 2 3 23]
@[simp] def ybhr : UB | _ => .seq (.seq (reg0 (hid ylh3) 5) (.cond (.t 21) .skip (.exit 0))) (.seq (.block 1 (hid ybhp)) (reg0 (hid ylhq) 3))
@[simp] def ylhs : UL | _ => [xQ 0 2 (.mov (xK 0))]
@[simp] def ybht : UB | _ => .seq (.seq (reg0 (hid ylh2) 1) (.block 0 (.loop (hid ybhr)))) (.seq (reg0 (hid ylhs) 1) .ret)
@[simp] def ybhu : UB | _ => .seq (reg0 (hid ylgx) 2) (.seq (hid ybh1) (hid ybht))
def c_RCCheck : EB × List QOp × Nat := ((hid ybhu), [(.mov (.t 2))], 80)
theorem k_RCCheck : cfun Tryz.prog 146 = some c_RCCheck := by kernel_rfl
@[simp] def ylhv : UL | _ => [xQ 0 1 (.box 69 (.t 0)), xQ 1 2 (.mov (xK 0)), xQ 2 3 (.mov (xK 0))]
@[simp] def ylhw : UL | _ => [xQ 0 4 (.mov (xK 0))]
@[simp] def ylhx : UL | _ => [xQ 0 5 (.mov (xK 0))]
@[simp] def ylhy : UL | _ => [xM 0 7 5, xQ 1 8 (.fad 2 (.t 1)), xQ 2 9 (.ldc (.t 8)), xQ 3 10 (.len (.t 9)), xQ 4 11 (.bin .lss (.t 7) (.t 10))]
@[simp] def ylhz : UL | _ => [xM 6 6 19]
@[simp] def yli0 : UL | _ => xQ 0 14 (.fad 2 (.t 1)) :: xQ 1 15 (.ldc (.t 14)) :: xM 2 16 5 :: xQ 3 17 (.isl 2 (.t 15) (.t 16)) :: xQ 4 18 (.fad 0 (.t 17)) :: xQ 5 19 (.ldc (.t 18)) :: hid ylhz
@[simp] def yli1 : UL | _ => [xM 6 26 25, xG 7 27 26 false (.mov (.t 4)), xG 8 28 26 false (.mov (.t 6)), xG 9 29 26 false (.bin .add (.t 27) (.t 28)), xG 10 30 26 false (.bin .gtr (.t 29) (xK 1125899906842624)), xQ 11 31 (.pick (.t 26) (.k (.bool true)) (.t 30))]
@[simp] def yli2 : UL | _ => xM 0 20 6 :: xQ 1 21 (.bin .lss (.t 20) (xK 0)) :: xM 2 22 21 :: xG 3 23 22 false (.mov (.t 6)) :: xG 4 24 22 false (.bin .gtr (.t 23) (xK 1125899906842624)) :: xQ 5 25 (.pick (.t 22) (.k (.bool true)) (.t 24)) :: hid yli1
@[simp] def yli3 : UL | _ => [xQ 0 2 (.mov (xK 0)), xQ 1 3 (.mov (xK 5))]
@[simp] def ybi4 : UB | _ => .seq (reg0 (hid yli2) 12) (.cond (.t 31) (.seq (reg0 (hid yli3) 2) .ret) .skip)
@[simp] def yli5 : UL | _ => [xM 0 32 4, xM 1 33 6, xQ 2 34 (.bin .add (.t 32) (.t 33)), xM 3 4 34]
@[simp] def ybi6 : UB | _ => .seq (reg0 (hid yli0) 7) (.seq (hid ybi4) (reg0 (hid yli5) 4))
@[simp] def yli7 : UL | _ => [xM 0 12 5, xQ 1 13 (.bin .add (.t 12) (xK 1)), xM 2 5 13]
@[simp] def ybi8 : UB | _ => .seq (.seq (reg0 (hid ylhy) 5) (.cond (.t 11) .skip (.exit 0))) (.seq (.block 1 (hid ybi6)) (reg0 (hid yli7) 3))
@[simp] def ybi9 : UB | _ => .seq (reg0 (hid ylhx) 1) (.block 0 (.loop (hid ybi8)))
@[simp] def ylia : UL | _ => [xM 0 35 4, xM 1 2 35, xQ 2 3 (.mov (xK 0))]
@[simp] def ybib : UB | _ => .seq (reg0 (hid ylhw) 1) (.seq (hid ybi9) (.seq (reg0 (hid ylia) 3) .ret))
@[simp] def ybic : UB | _ => .seq (reg0 (hid ylhv) 3) (hid ybib)
def c_RTxTotal : EB × List QOp × Nat := ((hid ybic), [(.mov (.t 2)), (.mov (.t 3))], 36)
theorem k_RTxTotal : cfun Tryz.prog 106 = some c_RTxTotal := by kernel_rfl
@[simp] def ylid : UL | _ => [xQ 0 1 (.box 69 (.t 0)), xQ 1 2 (.mov (xK 0))]
@[simp] def ylie : UL | _ => [xG 30 41 37 false (.bin .gtr (.t 40) (xK 64)), xQ 31 42 (.pick (.t 37) (.k (.bool true)) (.t 41))]
@[simp] def ylif : UL | _ => xG 24 35 31 false (.bin .lss (.t 34) (xK 1)) :: xQ 25 36 (.pick (.t 31) (.k (.bool true)) (.t 35)) :: xM 26 37 36 :: xG 27 38 37 false (.fad 2 (.t 1)) :: xG 28 39 37 false (.ldc (.t 38)) :: xG 29 40 37 false (.len (.t 39)) :: hid ylie
@[simp] def ylig : UL | _ => xG 18 29 25 false (.bin .gtr (.t 28) (xK 64)) :: xQ 19 30 (.pick (.t 25) (.k (.bool true)) (.t 29)) :: xM 20 31 30 :: xG 21 32 31 false (.fad 2 (.t 1)) :: xG 22 33 31 false (.ldc (.t 32)) :: xG 23 34 31 false (.len (.t 33)) :: hid ylif
@[simp] def ylih : UL | _ => xG 12 23 19 false (.bin .lss (.t 22) (xK 1)) :: xQ 13 24 (.pick (.t 19) (.k (.bool true)) (.t 23)) :: xM 14 25 24 :: xG 15 26 25 false (.fad 1 (.t 1)) :: xG 16 27 25 false (.ldc (.t 26)) :: xG 17 28 25 false (.len (.t 27)) :: hid ylig
@[simp] def ylii : UL | _ => xG 6 17 14 false (.bin .gtr (.t 16) (xK 1099511627776)) :: xQ 7 18 (.pick (.t 14) (.k (.bool true)) (.t 17)) :: xM 8 19 18 :: xG 9 20 19 false (.fad 1 (.t 1)) :: xG 10 21 19 false (.ldc (.t 20)) :: xG 11 22 19 false (.len (.t 21)) :: hid ylih
@[simp] def ylij : UL | _ => xQ 0 11 (.fad 0 (.t 1)) :: xQ 1 12 (.ldc (.t 11)) :: xQ 2 13 (.bin .lss (.t 12) (xK 0)) :: xM 3 14 13 :: xG 4 15 14 false (.fad 0 (.t 1)) :: xG 5 16 14 false (.ldc (.t 15)) :: hid ylii
@[simp] def ylik : UL | _ => [xQ 0 2 (.mov (xK 4))]
@[simp] def ybil : UB | _ => .seq (reg0 (hid ylij) 32) (.cond (.t 42) (.seq (reg0 (hid ylik) 1) .ret) .skip)
@[simp] def ylim : UL | _ => [xQ 0 3 (.mov (xK 0))]
@[simp] def ylin : UL | _ => [xM 0 43 3, xQ 1 44 (.fad 1 (.t 1)), xQ 2 45 (.ldc (.t 44)), xQ 3 46 (.len (.t 45)), xQ 4 47 (.bin .lss (.t 43) (.t 46))]
@[simp] def ylio : UL | _ => [xN 6 (.fz (.sto 35 (.t 4) (.t 54)))]
@[simp] def ylip : UL | _ => xQ 0 50 (.fad 1 (.t 1)) :: xQ 1 51 (.ldc (.t 50)) :: xM 2 52 3 :: xQ 3 53 (.isl 35 (.t 51) (.t 52)) :: xQ 4 54 (.lda 35 (.t 53)) :: xQ 5 4 (.alloc 83 (zU8 ++ [xZ, xZ, xS])) :: hid ylio
@[simp] def yliq : UL | _ => [xG 24 79 75 false (.bin .gtr (.t 78) (xK 64)), xQ 25 80 (.pick (.t 75) (.k (.bool true)) (.t 79))]
@[simp] def ylir : UL | _ => xG 18 73 70 false (.bin .gtr (.t 72) (xK 7)) :: xQ 19 74 (.pick (.t 70) (.k (.bool true)) (.t 73)) :: xM 20 75 74 :: xG 21 76 75 false (.fad 34 (.t 4)) :: xG 22 77 75 false (.ldc (.t 76)) :: xG 23 78 75 false (.len (.t 77)) :: hid yliq
@[simp] def ylis : UL | _ => xG 12 67 65 false (.ldc (.t 66)) :: xG 13 68 65 false (.bin .lss (.t 67) (xK 0)) :: xQ 14 69 (.pick (.t 65) (.k (.bool true)) (.t 68)) :: xM 15 70 69 :: xG 16 71 70 false (.fad 33 (.t 4)) :: xG 17 72 70 false (.ldc (.t 71)) :: hid ylir
@[simp] def ylit : UL | _ => xG 6 61 59 false (.fad 32 (.t 60)) :: xG 7 62 59 false (.ldc (.t 61)) :: xG 8 63 59 false (.bin .gtr (.t 62) (xK 63)) :: xQ 9 64 (.pick (.t 59) (.k (.bool true)) (.t 63)) :: xM 10 65 64 :: xG 11 66 65 false (.fad 33 (.t 4)) :: hid ylis
@[simp] def yliu : UL | _ => xQ 0 55 (.fad 0 (.t 4)) :: xQ 1 56 (.fad 32 (.t 55)) :: xQ 2 57 (.ldc (.t 56)) :: xQ 3 58 (.bin .lss (.t 57) (xK 0)) :: xM 4 59 58 :: xG 5 60 59 false (.fad 0 (.t 4)) :: hid ylit
@[simp] def yliv : UL | _ => [xQ 0 2 (.mov (xK 4))]
@[simp] def ybiw : UB | _ => .seq (reg0 (hid yliu) 26) (.cond (.t 80) (.seq (reg0 (hid yliv) 1) .ret) .skip)
@[simp] def ylix : UL | _ => [xM 0 48 3, xQ 1 49 (.bin .add (.t 48) (xK 1)), xM 2 3 49]
@[simp] def ybiy : UB | _ => .seq (.block 1 (.seq (reg0 (hid ylip) 7) (hid ybiw))) (reg0 (hid ylix) 3)
@[simp] def ybiz : UB | _ => .seq (.seq (reg0 (hid ylin) 5) (.cond (.t 47) .skip (.exit 0))) (hid ybiy)
@[simp] def ybj0 : UB | _ => .seq (reg0 (hid ylim) 1) (.block 0 (.loop (hid ybiz)))
@[simp] def ylj1 : UL | _ => [xQ 0 5 (.mov (xK 0))]
@[simp] def ylj2 : UL | _ => [xM 0 81 5, xQ 1 82 (.fad 1 (.t 1)), xQ 2 83 (.ldc (.t 82)), xQ 3 84 (.len (.t 83)), xQ 4 85 (.bin .lss (.t 81) (.t 84))]
@[simp] def ylj3 : UL | _ => [xQ 0 6 (.mov (xK 0))]
@[simp] def ylj4 : UL | _ => [xM 0 88 6, xM 1 89 5, xQ 2 90 (.bin .lss (.t 88) (.t 89))]
@[simp] def ylj5 : UL | _ => [xQ 12 105 (.eqw false [(32, .u8), (1, .i64)] (.t 98) (.t 104))]
@[simp] def ylj6 : UL | _ => xQ 6 99 (.fad 1 (.t 1)) :: xQ 7 100 (.ldc (.t 99)) :: xM 8 101 6 :: xQ 9 102 (.isl 35 (.t 100) (.t 101)) :: xQ 10 103 (.fad 0 (.t 102)) :: xQ 11 104 (.lda 33 (.t 103)) :: hid ylj5
@[simp] def ylj7 : UL | _ => xQ 0 93 (.fad 1 (.t 1)) :: xQ 1 94 (.ldc (.t 93)) :: xM 2 95 5 :: xQ 3 96 (.isl 35 (.t 94) (.t 95)) :: xQ 4 97 (.fad 0 (.t 96)) :: xQ 5 98 (.lda 33 (.t 97)) :: hid ylj6
@[simp] def ylj8 : UL | _ => [xQ 0 2 (.mov (xK 9))]
@[simp] def ybj9 : UB | _ => .seq (reg0 (hid ylj7) 13) (.cond (.t 105) (.seq (reg0 (hid ylj8) 1) .ret) .skip)
@[simp] def ylja : UL | _ => [xM 0 91 6, xQ 1 92 (.bin .add (.t 91) (xK 1)), xM 2 6 92]
@[simp] def ybjb : UB | _ => .seq (.seq (reg0 (hid ylj4) 3) (.cond (.t 90) .skip (.exit 4))) (.seq (.block 5 (hid ybj9)) (reg0 (hid ylja) 3))
@[simp] def ybjc : UB | _ => .seq (reg0 (hid ylj3) 1) (.block 4 (.loop (hid ybjb)))
@[simp] def yljd : UL | _ => [xM 0 86 5, xQ 1 87 (.bin .add (.t 86) (xK 1)), xM 2 5 87]
@[simp] def ybje : UB | _ => .seq (.seq (reg0 (hid ylj2) 5) (.cond (.t 85) .skip (.exit 2))) (.seq (.block 3 (hid ybjc)) (reg0 (hid yljd) 3))
@[simp] def ybjf : UB | _ => .seq (reg0 (hid ylj1) 1) (.block 2 (.loop (hid ybje)))
@[simp] def yljg : UL | _ => [xQ 0 7 (.mov (xK 0))]
@[simp] def yljh : UL | _ => [xM 0 106 7, xQ 1 107 (.fad 2 (.t 1)), xQ 2 108 (.ldc (.t 107)), xQ 3 109 (.len (.t 108)), xQ 4 110 (.bin .lss (.t 106) (.t 109))]
@[simp] def ylji : UL | _ => [xQ 6 119 (.bin .lss (.t 118) (xK 10))]
@[simp] def yljj : UL | _ => xQ 0 113 (.fad 2 (.t 1)) :: xQ 1 114 (.ldc (.t 113)) :: xM 2 115 7 :: xQ 3 116 (.isl 2 (.t 114) (.t 115)) :: xQ 4 117 (.fad 0 (.t 116)) :: xQ 5 118 (.ldc (.t 117)) :: hid ylji
@[simp] def yljk : UL | _ => [xQ 0 2 (.mov (xK 27))]
@[simp] def ybjl : UB | _ => .seq (reg0 (hid yljj) 7) (.cond (.t 119) (.seq (reg0 (hid yljk) 1) .ret) .skip)
@[simp] def yljm : UL | _ => [xQ 6 126 (.bin .gtr (.t 125) (xK 1125899906842624))]
@[simp] def yljn : UL | _ => xQ 0 120 (.fad 2 (.t 1)) :: xQ 1 121 (.ldc (.t 120)) :: xM 2 122 7 :: xQ 3 123 (.isl 2 (.t 121) (.t 122)) :: xQ 4 124 (.fad 0 (.t 123)) :: xQ 5 125 (.ldc (.t 124)) :: hid yljm
@[simp] def yljo : UL | _ => [xQ 0 2 (.mov (xK 5))]
@[simp] def ybjp : UB | _ => .seq (reg0 (hid yljn) 7) (.cond (.t 126) (.seq (reg0 (hid yljo) 1) .ret) .skip)
@[simp] def yljq : UL | _ => [xO 6 133 (.call 146 [(.t 132)]), xM 7 8 133]
@[simp] def yljr : UL | _ => xQ 0 127 (.fad 2 (.t 1)) :: xQ 1 128 (.ldc (.t 127)) :: xM 2 129 7 :: xQ 3 130 (.isl 2 (.t 128) (.t 129)) :: xQ 4 131 (.fad 1 (.t 130)) :: xQ 5 132 (.lda 1 (.t 131)) :: hid yljq
@[simp] def yljs : UL | _ => [xM 0 134 8, xQ 1 135 (.bin .neq (.t 134) (xK 0))]
@[simp] def yljt : UL | _ => [xM 0 136 8, xM 1 2 136]
@[simp] def ybju : UB | _ => .seq (reg0 (hid yljs) 2) (.cond (.t 135) (.seq (reg0 (hid yljt) 2) .ret) .skip)
@[simp] def ybjv : UB | _ => .seq (hid ybjp) (.seq (reg0 (hid yljr) 8) (hid ybju))
@[simp] def yljw : UL | _ => [xM 0 111 7, xQ 1 112 (.bin .add (.t 111) (xK 1)), xM 2 7 112]
@[simp] def ybjx : UB | _ => .seq (.block 7 (.seq (hid ybjl) (hid ybjv))) (reg0 (hid yljw) 3)
@[simp] def ybjy : UB | _ => .seq (.seq (reg0 (hid yljh) 5) (.cond (.t 110) .skip (.exit 6))) (hid ybjx)
@[simp] def ybjz : UB | _ => .seq (reg0 (hid yljg) 1) (.block 6 (.loop (hid ybjy)))
@[simp] def ylk0 : UL | _ => [xM 6 10 141]
@[simp] def ylk1 : UL | _ => xQ 0 138 (.lda 3 (.t 1)) :: xO 1 139 (.call 106 [(.t 138)]) :: xM 2 137 139 :: xQ 3 140 (.ext 0 (.t 137)) :: xQ 4 141 (.ext 1 (.t 137)) :: xM 5 9 140 :: hid ylk0
@[simp] def ylk2 : UL | _ => [xM 0 142 10, xM 1 2 142]
@[simp] def ybk3 : UB | _ => .seq (reg0 (hid ylk1) 7) (.seq (reg0 (hid ylk2) 2) .ret)
@[simp] def ybk4 : UB | _ => .seq (hid ybjf) (.seq (hid ybjz) (hid ybk3))
@[simp] def ybk5 : UB | _ => .seq (hid ybil) (.seq (hid ybj0) (hid ybk4))
@[simp] def ybk6 : UB | _ => .seq (reg0 (hid ylid) 2) (hid ybk5)
def c_RTxCheck : EB × List QOp × Nat := ((hid ybk6), [(.mov (.t 2))], 143)
theorem k_RTxCheck : cfun Tryz.prog 93 = some c_RTxCheck := by kernel_rfl
theorem drop35t (a b c : EC) : List.drop 35 (a :: (hc hz ++ [b, c])) = [] := by rw [List.drop_eq_nil_iff]; simp [hz]
def AllB (l : List Bra) (i : Nat) : Prop := (l.take i).all brM = true
theorem all_take {l : List Bra} {i : Nat} {b : Bra} (h : l[i]? = some b) (ht : AllB l i) (hb : brM b = true) : AllB l (i + 1) := by
  unfold AllB at *
  rw [List.take_add_one, h, List.all_append, ht]; simp [hb]
def AllI (l : List Inp) (i : Nat) : Prop := (l.take i).all inM = true
theorem alli_take {l : List Inp} {i : Nat} {b : Inp} (h : l[i]? = some b) (ht : AllI l i) (hb : inM b = true) : AllI l (i + 1) := by
  unfold AllI at *
  rw [List.take_add_one, h, List.all_append, ht]; simp [hb]
theorem cnE_bad {l : List Bra} {i : Nat} {b : Bra} (h : l[i]? = some b) (hb : brM b = false) : cnE l = 1 := by
  refine if_neg ?_
  rintro ⟨_, h2⟩
  have := (List.all_eq_true.1 h2) b (List.mem_of_getElem? h)
  rw [hb] at this
  simp at this
theorem RCCheck_ok (l : List Bra) (hl : ∀ h ∈ l, h.ok) (hn : l.length ≤ 100000000) : ECalls Tryz.prog 146 [CNv l] [] fun y H' => H' = [] ∧ y = I .i64 (cnE l) := by
  refine ecalls k_RCCheck ?_
  simp [c_RCCheck, CNv, I]
  by_cases c1 : l.length < 1
  · have c1' : (l.length : Int) < 1 := by omega
    have d1 : ¬ 1 ≤ l.length := by omega
    have d1' : ¬ (1 : Int) ≤ (l.length : Int) := by omega
    have hv : cnE l = 1 := if_neg (by omega)
    rw [hv]
    simp [c1, c1', d1, d1']
    exact fin0
  have c1' : ¬ (l.length : Int) < 1 := by omega
  have d1 : 1 ≤ l.length := by omega
  have d1' : (1 : Int) ≤ (l.length : Int) := by omega
  by_cases c2 : 8 < l.length
  · have c2' : (8 : Int) < (l.length : Int) := by omega
    have d2 : ¬ l.length ≤ 8 := by omega
    have d2' : ¬ (l.length : Int) ≤ 8 := by omega
    have hv : cnE l = 1 := if_neg (by omega)
    rw [hv]
    simp [c1, c1', d1, d1', c2, c2', d2, d2']
    exact fin0
  have c2' : ¬ (8 : Int) < (l.length : Int) := by omega
  have d2 : l.length ≤ 8 := by omega
  have d2' : (l.length : Int) ≤ 8 := by omega
  simp [c1, c1', d1, d1', c2, c2', d2, d2']
  refine eloop (α := Nat) (fun i => i ≤ l.length ∧ AllB l i) (fun i => l.length - i)
    (fun i => [xA, Ptr 0, xA, I .i64 i, xA, xA, xA, xA, xA, xA, xA, xA, xA, xA, xA, xA, xA, xA, xA, xA, xA, xA, xA, xA, xA, xA, xA, xA, xA, xA, xA, xA, xA, xA, xA, xA, xA, xA, xA, xA, xA, xA, xA, xA, xA, xA, xA, xA, xA, xA, xA, xA, xA, xA, xA, xA, xA, xA, xA, xA, xA, xA, xA, xA, xA, xA, xA, xA, xA, xA, xA, xA, xA, xA, xA, xA, xA, xA, xA, .any]) (fun _ => [some (.box 145 [.fz (.sl 35 (brav l))])]) 0 [0]
    ⟨by simp, by simp [AllB]⟩ (by simp [Ptr, I]) (by simp) (by simp) (by simp) (by simp) ?_
  rintro i ⟨hi1, hi2⟩
  simp [Ptr, I]
  refine alt (fun hlt => ?_) (fun hlt => ?_)
  rotate_left
  · have hil : i = l.length := by omega
    subst hil
    unfold AllB at hi2
    rw [List.take_length] at hi2
    have hv : cnE l = 0 := if_pos ⟨by omega, hi2⟩
    rw [hv]
    simp
    exact fin0
  have hln : i < l.length := by omega
  obtain ⟨b, hcb⟩ : ∃ b, l[i]? = some b := ⟨l[i], by simp [hln]⟩
  have hge : (brav l)[i]'(by simp [hln]) = braF b := gE (brav_get hcb)
  obtain ⟨hk, h1, ha, ho, h4⟩ := hl b (List.mem_of_getElem? hcb)
  have l0 := bc_len h1
  have l1 := bf_len h1
  have tk := bc_take h1
  have e0 := idx_of (bc_0 b) (by omega)
  have e33 := idx_of (bc_33 h1) (by omega)
  have e34 := idx_of (bc_34 h1) (by omega)
  simp [hln, hge, braF_fz, l0, l1, tk, drop35t, e0, e33, e34, iC]
  have hbad : ∀ q : ¬ (1 ≤ b.keys.length ∧ 0 ≤ b.af ∧ b.af ≤ 1099511627776 ∧ 0 ≤ b.ol ∧ b.ol ≤ 65536), cnE l = 1 := fun q => cnE_bad hcb (by unfold brM; rw [decide_eq_false q, Bool.and_false])
  by_cases c3 : b.keys.length < 1
  · have c3' : (b.keys.length : Int) < 1 := by omega
    have d3 : ¬ 1 ≤ b.keys.length := by omega
    have d3' : ¬ (1 : Int) ≤ (b.keys.length : Int) := by omega
    rw [hbad (by omega)]
    simp [c3, c3', d3, d3']
    exact fin0
  have c3' : ¬ (b.keys.length : Int) < 1 := by omega
  have d3 : 1 ≤ b.keys.length := by omega
  have d3' : (1 : Int) ≤ (b.keys.length : Int) := by omega
  by_cases c4 : b.af < 0
  · have d4 : ¬ 0 ≤ b.af := by omega
    rw [hbad (by omega)]
    simp [c3, c3', d3, d3', c4, d4, l0, e33, e34, iC]
    exact fin0
  have d4 : 0 ≤ b.af := by omega
  by_cases c5 : 1099511627776 < b.af
  · have d5 : ¬ b.af ≤ 1099511627776 := by omega
    rw [hbad (by omega)]
    simp [c3, c3', d3, d3', c4, d4, c5, d5, l0, e33, e34, iC]
    exact fin0
  have d5 : b.af ≤ 1099511627776 := by omega
  by_cases c6 : b.ol < 0
  · have d6 : ¬ 0 ≤ b.ol := by omega
    rw [hbad (by omega)]
    simp [c3, c3', d3, d3', c4, d4, c5, d5, c6, d6, l0, e33, e34, iC]
    exact fin0
  have d6 : 0 ≤ b.ol := by omega
  by_cases c7 : 65536 < b.ol
  · have d7 : ¬ b.ol ≤ 65536 := by omega
    rw [hbad (by omega)]
    simp [c3, c3', d3, d3', c4, d4, c5, d5, c6, d6, c7, d7, l0, e33, e34, iC]
    exact fin0
  have d7 : b.ol ≤ 65536 := by omega
  simp [c3, c3', d3, d3', c4, d4, c5, d5, c6, d6, c7, d7, l0, e33, e34, iC]
  refine eloop (α := Nat × Int) (fun a => a.1 ≤ b.keys.length ∧ keysS (-1) b.keys = keysS a.2 (b.keys.drop a.1)) (fun a => b.keys.length - a.1)
    (fun a => [xA, Ptr 0, xA, I .i64 i, Ptr 1, I .i64 a.2, I .i64 a.1, xA, xA, xA, xA, xA, xA, xA, xA, xA, xA, xA, xA, xA, xA, xA, xA, xA, xA, xA, xA, xA, xA, xA, xA, xA, xA, xA, xA, xA, xA, xA, xA, xA, xA, xA, xA, xA, xA, xA, xA, xA, xA, xA, xA, xA, xA, xA, xA, xA, xA, xA, xA, xA, xA, xA, xA, xA, xA, xA, xA, xA, xA, xA, xA, xA, xA, xA, xA, xA, xA, xA, xA, .any]) (fun _ => [some (.box 145 [.fz (.sl 35 (brav l))]), some (.box 150 (braC b))]) (0, -1) [0, 161]
    ⟨by simp, by simp⟩ (by simp [Ptr, I]) (by simp) (by simp) (by simp) (by simp) ?_
  rintro ⟨j, last⟩ ⟨hj1, hj2⟩
  dsimp only at hj1 hj2
  simp [Ptr, I, l0, e0]
  refine alt (fun hlt2 => ?_) (fun hlt2 => ?_)
  · have hjn : j < b.keys.length := by omega
    obtain ⟨k, hck⟩ : ∃ k, b.keys[j]? = some k := ⟨b.keys[j], by simp [hjn]⟩
    have ga : ∀ h2, (intv b.keys)[j]'h2 = [.lit (.int .i64 k)] := fun h2 => by rw [intv_at hjn, hck]; rfl
    rw [drop_cons hck] at hj2
    have w1 : IntKind.i64.wrap ((j : Int) + 1) = ((j + 1 : Nat) : Int) := wrap_i64 (by omega) (by omega)
    have hbk : ¬ (last < k ∧ k < 16) → cnE l = 1 := fun q => cnE_bad hcb (by unfold brM; rw [hj2]; simp only [keysS, decide_eq_false q, Bool.false_and])
    simp [hjn, ga, l0, e0]
    by_cases g1 : k ≤ last
    · have g1' : ¬ last < k := by omega
      rw [hbk (by omega)]
      simp [g1, g1']
      exact fin0
    have g1' : last < k := by omega
    by_cases g2 : 15 < k
    · have g2' : ¬ k ≤ 15 := by omega
      rw [hbk (by omega)]
      simp [g1, g1', g2, g2', hjn, ga, l0, e0]
      exact fin0
    have g2' : k ≤ 15 := by omega
    simp [g1, g1', g2, g2', hjn, ga, l0, e0, w1, -Int.natCast_add]
    exact round (j + 1, k) [0, 1] ⟨by dsimp only; omega, by dsimp only; rw [hj2, keysS, decide_eq_true ⟨g1', by omega⟩, Bool.true_and]⟩ (by dsimp only; omega) (by simp [Ptr, I]) (by simp) (by simp) (by simp) (by simp)
  · have hd : b.keys.drop j = [] := by rw [List.drop_eq_nil_iff]; omega
    have hks : keysS (-1) b.keys = true := by rw [hj2, hd]; rfl
    have hbm : brM b = true := by unfold brM; rw [hks, Bool.true_and]; exact decide_eq_true ⟨d3, d4, d5, d6, d7⟩
    have w1 := wS (i := i) (by omega)
    simp [w1, -Int.natCast_add]
    exact round (i + 1) [0] ⟨by omega, all_take hcb hi2 hbm⟩ (by omega) (by simp [Ptr, I]) (by simp) (by simp) (by simp) (by simp)
theorem RTxTotal_ok (t : Txn) (ht : t.ok) : ECalls Tryz.prog 106 [TXv t] [] fun y H' => H' = [] ∧ y = .tup [.c (iC (totO 0 t.outs).1), .c (iC ((totO 0 t.outs).2 : Int))] := by
  obtain ⟨h1, h2, h3, h4, h5⟩ := ht
  obtain ⟨F, hF⟩ : ∃ F, totO 0 t.outs = F := ⟨_, rfl⟩
  rw [hF]
  refine ecalls k_RTxTotal ?_
  simp [c_RTxTotal, TXv, txC, I, iC]
  refine eloop (α := Nat × Int) (fun a => a.1 ≤ t.outs.length ∧ totO a.2 (t.outs.drop a.1) = F ∧ 0 ≤ a.2 ∧ a.2 ≤ 1125899906842624) (fun a => t.outs.length - a.1)
    (fun a => [xA, Ptr 0, xA, xA, I .i64 a.2, I .i64 a.1, xA, xA, xA, xA, xA, xA, xA, xA, xA, xA, xA, xA, xA, xA, xA, xA, xA, xA, xA, xA, xA, xA, xA, xA, xA, xA, xA, xA, xA, .any]) (fun _ => [some (.box 69 (txC t))]) (0, 0) [0]
    ⟨by simp, by simpa using hF, by simp, by simp⟩ (by simp [I, Ptr]) (by simp [txC, iC]) (by simp) (by simp) (by simp) ?_
  rintro ⟨i, n⟩ ⟨hi1, hi2, hi3, hi4⟩
  dsimp only at hi1 hi2 hi3 hi4
  simp [I, Ptr, txC, iC]
  refine alt (fun hlt => ?_) (fun hlt => ?_)
  · have hln : i < t.outs.length := by omega
    obtain ⟨p, hc⟩ : ∃ p, t.outs[i]? = some p := ⟨t.outs[i], by simp [hln]⟩
    have hge : (outv t.outs)[i]'(by simp [hln]) = outF p := gE (outv_get hc)
    have hpo := h3 p (List.mem_of_getElem? hc)
    have hpa := hpo.1
    unfold i64 at hpa
    rw [drop_cons hc] at hi2
    have w1 := wS (i := i) (by omega)
    simp [hln, hge, outF, iF]
    by_cases c1 : p.am < 0
    · have c1' : ¬ 0 ≤ p.am := by omega
      have hv : F = (0, 5) := by rw [← hi2]; exact if_pos (.inl c1)
      rw [hv]
      simp [c1, c1']
      exact fin0
    have c1' : 0 ≤ p.am := by omega
    by_cases c3 : 1125899906842624 < p.am
    · have c3' : ¬ p.am ≤ 1125899906842624 := by omega
      have hv : F = (0, 5) := by rw [← hi2]; exact if_pos (.inr (by omega))
      rw [hv]
      simp [c1, c1', c3, c3']
      exact fin0
    have c3' : p.am ≤ 1125899906842624 := by omega
    have w3 : IntKind.i64.wrap (n + p.am) = n + p.am := wrap_i64 (by omega) (by omega)
    by_cases c2 : 1125899906842624 < n + p.am
    · have c2' : ¬ n + p.am ≤ 1125899906842624 := by omega
      have hv : F = (0, 5) := by rw [← hi2]; exact if_pos (.inr (by omega))
      rw [hv]
      simp [c1, c1', c3, c3', w3, c2, c2']
      exact fin0
    have c2' : n + p.am ≤ 1125899906842624 := by omega
    have hn : totO (n + p.am) (t.outs.drop (i + 1)) = F := by rw [← hi2]; exact (if_neg (by omega)).symm
    simp [c1, c1', c3, c3', c2, c2', w3, w1, -Int.natCast_add]
    exact round (i + 1, n + p.am) [0] ⟨by dsimp only; omega, hn, by dsimp only; omega, by dsimp only; omega⟩ (by dsimp only; omega) (by simp [I, Ptr]) (by simp) (by simp) (by simp) (by simp)
  · have hd : t.outs.drop i = [] := by rw [List.drop_eq_nil_iff]; omega
    rw [hd] at hi2
    rw [← hi2]
    simp
    exact fin0
theorem RTxCheck_ok (t : Txn) (ht : t.ok) : ECalls Tryz.prog 93 [TXv t] [] fun y H' => H' = [] ∧ y = I .i64 (chkT t) := by
  obtain ⟨h1, h2, h3, h4, h5⟩ := id ht
  have hv4 : (t.lk < 0 ∨ 1099511627776 < t.lk ∨ ¬ (1 ≤ t.ins.length ∧ t.ins.length ≤ 64) ∨ ¬ (1 ≤ t.outs.length ∧ t.outs.length ≤ 64) ∨ t.ins.all inM = false) → chkT t = 4 := fun h => if_pos h
  refine ecalls k_RTxCheck ?_
  simp [c_RTxCheck, TXv, txC, I, iC]
  by_cases c1 : t.lk < 0
  · have c1' : ¬ 0 ≤ t.lk := by omega
    rw [hv4 (.inl c1)]
    simp [c1, c1']
    exact fin0
  have c1' : 0 ≤ t.lk := by omega
  by_cases c2 : 1099511627776 < t.lk
  · have c2' : ¬ t.lk ≤ 1099511627776 := by omega
    rw [hv4 (.inr (.inl c2))]
    simp [c1, c1', c2, c2']
    exact fin0
  have c2' : t.lk ≤ 1099511627776 := by omega
  by_cases c3 : t.ins.length < 1
  · have c3' : (t.ins.length : Int) < 1 := by omega
    have d3 : ¬ 1 ≤ t.ins.length := by omega
    have d3' : ¬ (1 : Int) ≤ (t.ins.length : Int) := by omega
    rw [hv4 (.inr (.inr (.inl (by omega))))]
    simp [c1, c1', c2, c2', c3, c3', d3, d3']
    exact fin0
  have c3' : ¬ (t.ins.length : Int) < 1 := by omega
  have d3 : 1 ≤ t.ins.length := by omega
  have d3' : (1 : Int) ≤ (t.ins.length : Int) := by omega
  by_cases c4 : 64 < t.ins.length
  · have c4' : (64 : Int) < (t.ins.length : Int) := by omega
    have d4 : ¬ t.ins.length ≤ 64 := by omega
    have d4' : ¬ (t.ins.length : Int) ≤ 64 := by omega
    rw [hv4 (.inr (.inr (.inl (by omega))))]
    simp [c1, c1', c2, c2', c3, c3', d3, d3', c4, c4', d4, d4']
    exact fin0
  have c4' : ¬ (64 : Int) < (t.ins.length : Int) := by omega
  have d4 : t.ins.length ≤ 64 := by omega
  have d4' : (t.ins.length : Int) ≤ 64 := by omega
  by_cases c5 : t.outs.length < 1
  · have c5' : (t.outs.length : Int) < 1 := by omega
    have d5 : ¬ 1 ≤ t.outs.length := by omega
    have d5' : ¬ (1 : Int) ≤ (t.outs.length : Int) := by omega
    rw [hv4 (.inr (.inr (.inr (.inl (by omega)))))]
    simp [c1, c1', c2, c2', c3, c3', d3, d3', c4, c4', d4, d4', c5, c5', d5, d5']
    exact fin0
  have c5' : ¬ (t.outs.length : Int) < 1 := by omega
  have d5 : 1 ≤ t.outs.length := by omega
  have d5' : (1 : Int) ≤ (t.outs.length : Int) := by omega
  by_cases c6 : 64 < t.outs.length
  · have c6' : (64 : Int) < (t.outs.length : Int) := by omega
    have d6 : ¬ t.outs.length ≤ 64 := by omega
    have d6' : ¬ (t.outs.length : Int) ≤ 64 := by omega
    rw [hv4 (.inr (.inr (.inr (.inl (by omega)))))]
    simp [c1, c1', c2, c2', c3, c3', d3, d3', c4, c4', d4, d4', c5, c5', d5, d5', c6, c6', d6, d6']
    exact fin0
  have c6' : ¬ (64 : Int) < (t.outs.length : Int) := by omega
  have d6 : t.outs.length ≤ 64 := by omega
  have d6' : (t.outs.length : Int) ≤ 64 := by omega
  simp [c1, c1', c2, c2', c3, c3', d3, d3', c4, c4', d4, d4', c5, c5', d5, d5', c6, c6', d6, d6']
  refine eloop (α := Nat) (fun i => i ≤ t.ins.length ∧ AllI t.ins i) (fun i => t.ins.length - i)
    (fun i => [xA, Ptr 0, xA, I .i64 i, xA, xA, xA, xA, xA, xA, xA, xA, xA, xA, xA, xA, xA, xA, xA, xA, xA, xA, xA, xA, xA, xA, xA, xA, xA, xA, xA, xA, xA, xA, xA, xA, xA, xA, xA, xA, xA, xA, xA, xA, xA, xA, xA, xA, xA, xA, xA, xA, xA, xA, xA, xA, xA, xA, xA, xA, xA, xA, xA, xA, xA, xA, xA, xA, xA, xA, xA, xA, xA, xA, xA, xA, xA, xA, xA, xA, xA, xA, xA, xA, xA, xA, xA, xA, xA, xA, xA, xA, xA, xA, xA, xA, xA, xA, xA, xA, xA, xA, xA, xA, xA, xA, xA, xA, xA, xA, xA, xA, xA, xA, xA, xA, xA, xA, xA, xA, xA, xA, xA, xA, xA, xA, xA, xA, xA, xA, xA, xA, xA, xA, xA, xA, xA, xA, xA, xA, xA, xA, .any]) (fun _ => [some (.box 69 (txC t))]) 0 [0]
    ⟨by simp, by simp [AllI]⟩ (by simp [Ptr, I]) (by simp [txC, iC]) (by simp) (by simp) (by simp) ?_
  rintro i ⟨hi1, hi2⟩
  simp [Ptr, I, txC, iC]
  refine alt (fun hlt => ?_) (fun hlt => ?_)
  · have hln : i < t.ins.length := by omega
    obtain ⟨p, hcp⟩ : ∃ p, t.ins[i]? = some p := ⟨t.ins[i], by simp [hln]⟩
    have hge : (inpv t.ins)[i]'(by simp [hln]) = inpF p := gE (inpv_get hcp)
    have hpo := h2 p (List.mem_of_getElem? hcp)
    have l0 := ic_len hpo.1
    have l1 := if_len hpo.1
    have tk := ic_take hpo.1
    have e32 := idx_of (ic_32 hpo.1) (by omega)
    have e33 := idx_of (ic_33 hpo.1) (by omega)
    have e34 := idx_of (ic_34 hpo.1) (by omega)
    have w1 := wS (i := i) (by omega)
    have hb : (bsv p.sec).length = p.sec.length := by simp
    have hbad : ¬ (0 ≤ p.n ∧ p.n < 64 ∧ 0 ≤ p.br ∧ p.br < 8 ∧ p.sec.length ≤ 64) → chkT t = 4 := fun q => hv4 (.inr (.inr (.inr (.inr (by rw [List.all_eq_false]; exact ⟨p, List.mem_of_getElem? hcp, by unfold inM; rw [decide_eq_false q]; simp⟩)))))
    simp [hln, hge, inpF_fz, l0, l1, tk, drop35i, e32, e33, e34, iC]
    by_cases g1 : p.n < 0
    · have g1' : ¬ 0 ≤ p.n := by omega
      rw [hbad (by omega)]
      simp [g1, g1']
      exact fin0
    have g1' : 0 ≤ p.n := by omega
    by_cases g2 : 63 < p.n
    · have g2' : ¬ p.n ≤ 63 := by omega
      rw [hbad (by omega)]
      simp [g1, g1', g2, g2', l0, e32, e33, e34, iC]
      exact fin0
    have g2' : p.n ≤ 63 := by omega
    by_cases g3 : p.br < 0
    · have g3' : ¬ 0 ≤ p.br := by omega
      rw [hbad (by omega)]
      simp [g1, g1', g2, g2', g3, g3', l0, e32, e33, e34, iC]
      exact fin0
    have g3' : 0 ≤ p.br := by omega
    by_cases g4 : 7 < p.br
    · have g4' : ¬ p.br ≤ 7 := by omega
      rw [hbad (by omega)]
      simp [g1, g1', g2, g2', g3, g3', g4, g4', l0, e32, e33, e34, iC]
      exact fin0
    have g4' : p.br ≤ 7 := by omega
    by_cases g5 : 64 < p.sec.length
    · have g5' : (64 : Int) < (p.sec.length : Int) := by omega
      have k5 : ¬ p.sec.length ≤ 64 := by omega
      have k5' : ¬ (p.sec.length : Int) ≤ 64 := by omega
      rw [hbad (by omega)]
      simp [g1, g1', g2, g2', g3, g3', g4, g4', g5, g5', k5, k5', hb, l0, e32, e33, e34, iC]
      exact fin0
    have g5' : ¬ (64 : Int) < (p.sec.length : Int) := by omega
    have k5 : p.sec.length ≤ 64 := by omega
    have k5' : (p.sec.length : Int) ≤ 64 := by omega
    have hgd : inM p = true := decide_eq_true ⟨by omega, by omega, by omega, by omega, by omega⟩
    simp [g1, g1', g2, g2', g3, g3', g4, g4', g5, g5', k5, k5', hb, l0, e32, e33, e34, iC, w1, -Int.natCast_add]
    exact round (i + 1) [0] ⟨by omega, alli_take hcp hi2 hgd⟩ (by omega) (by simp [Ptr, I]) (by simp) (by simp) (by simp) (by simp)
  have hil : i = t.ins.length := by omega
  subst hil
  unfold AllI at hi2
  rw [List.take_length] at hi2
  have hv9 : chkT t = if ¬ (t.ins.map ptI).Nodup then 9 else if outsE t.outs ≠ 0 then outsE t.outs else (totO 0 t.outs).2 := by
    unfold chkT
    rw [if_neg]
    rintro (h | h | h | h | h)
    · exact c1 h
    · exact c2 h
    · omega
    · omega
    · rw [hi2] at h; simp at h
  clear hi1 hlt
  simp
  refine eloop (α := Nat) (fun i => i ≤ t.ins.length ∧ ((t.ins.take i).map ptI).Nodup) (fun i => t.ins.length - i)
    (fun i => [xA, Ptr 0, xA, xA, xA, I .i64 i, xA, xA, xA, xA, xA, xA, xA, xA, xA, xA, xA, xA, xA, xA, xA, xA, xA, xA, xA, xA, xA, xA, xA, xA, xA, xA, xA, xA, xA, xA, xA, xA, xA, xA, xA, xA, xA, xA, xA, xA, xA, xA, xA, xA, xA, xA, xA, xA, xA, xA, xA, xA, xA, xA, xA, xA, xA, xA, xA, xA, xA, xA, xA, xA, xA, xA, xA, xA, xA, xA, xA, xA, xA, xA, xA, xA, xA, xA, xA, xA, xA, xA, xA, xA, xA, xA, xA, xA, xA, xA, xA, xA, xA, xA, xA, xA, xA, xA, xA, xA, xA, xA, xA, xA, xA, xA, xA, xA, xA, xA, xA, xA, xA, xA, xA, xA, xA, xA, xA, xA, xA, xA, xA, xA, xA, xA, xA, xA, xA, xA, xA, xA, xA, xA, xA, xA, .any]) (fun _ => [some (.box 69 (txC t))]) 0 [0]
    ⟨by simp, by simp⟩ (by simp [Ptr, I]) (by simp [txC, iC]) (by simp) (by simp) (by simp) ?_
  rintro i ⟨hi1, hn1⟩
  simp [Ptr, I, txC, iC]
  refine alt (fun hlt => ?_) (fun hlt => ?_)
  · have hln : i < t.ins.length := by omega
    obtain ⟨p, hcp⟩ : ∃ p, t.ins[i]? = some p := ⟨t.ins[i], by simp [hln]⟩
    have hge : (inpv t.ins)[i]'(by simp [hln]) = inpF p := gE (inpv_get hcp)
    have hpo := h2 p (List.mem_of_getElem? hcp)
    simp
    refine eloop (α := Nat) (fun k => k ≤ i ∧ ∀ (j : Nat) (x : Inp), j < k → t.ins[j]? = some x → ptI p ≠ ptI x) (fun k => i - k)
      (fun k => [xA, Ptr 0, xA, xA, xA, I .i64 i, I .i64 k, xA, xA, xA, xA, xA, xA, xA, xA, xA, xA, xA, xA, xA, xA, xA, xA, xA, xA, xA, xA, xA, xA, xA, xA, xA, xA, xA, xA, xA, xA, xA, xA, xA, xA, xA, xA, xA, xA, xA, xA, xA, xA, xA, xA, xA, xA, xA, xA, xA, xA, xA, xA, xA, xA, xA, xA, xA, xA, xA, xA, xA, xA, xA, xA, xA, xA, xA, xA, xA, xA, xA, xA, xA, xA, xA, xA, xA, xA, xA, xA, xA, xA, xA, xA, xA, xA, xA, xA, xA, xA, xA, xA, xA, xA, xA, xA, xA, xA, xA, xA, xA, xA, xA, xA, xA, xA, xA, xA, xA, xA, xA, xA, xA, xA, xA, xA, xA, xA, xA, xA, xA, xA, xA, xA, xA, xA, xA, xA, xA, xA, xA, xA, xA, xA, xA, .any]) (fun _ => [some (.box 69 (txC t))]) 0 [0]
      ⟨by simp, by intro j x h; omega⟩ (by simp [Ptr, I]) (by simp [txC, iC]) (by simp) (by simp) (by simp) ?_
    rintro k ⟨hk1, hk2⟩
    simp [Ptr, I, txC, iC]
    refine alt (fun hlk => ?_) (fun hlk => ?_)
    · have hkn : k < t.ins.length := by omega
      obtain ⟨q, hcq⟩ : ∃ q, t.ins[k]? = some q := ⟨t.ins[k], by simp [hkn]⟩
      have hgq : (inpv t.ins)[k]'(by simp [hkn]) = inpF q := gE (inpv_get hcq)
      have hqo := h2 q (List.mem_of_getElem? hcq)
      have lp := ic_len hpo.1
      have lq := ic_len hqo.1
      have fp := if_len hpo.1
      have fq := if_len hqo.1
      have pp := ic_pt hpo.1
      have pq := ic_pt hqo.1
      have kp := litK_pt hpo
      have kq := litK_pt hqo
      have kp' : litK (unrle [(32, .u8), (1, .i64)]) (hc p.tx ++ [EC.fz (FV.lit (Value.int IntKind.i64 p.n))]) = some (ptI p) := kp
      have kq' : litK (unrle [(32, .u8), (1, .i64)]) (hc q.tx ++ [EC.fz (FV.lit (Value.int IntKind.i64 q.n))]) = some (ptI q) := kq
      have w1 : IntKind.i64.wrap ((k : Int) + 1) = ((k + 1 : Nat) : Int) := wrap_i64 (by omega) (by omega)
      simp [hln, hkn, hge, hgq, inpF_fz, lp, lq, fp, fq, pp, pq, iC, kp', kq']
      refine alt (fun he => ?_) (fun he => ?_)
      · have hnd : ¬ (t.ins.map ptI).Nodup := by
          intro h
          have := (List.pairwise_iff_getElem.1 h) k i (by simp; omega) (by simp; omega) (by omega)
          simp only [List.getElem_map] at this
          have e1 : t.ins[k] = q := by rw [List.getElem?_eq_getElem hkn] at hcq; exact Option.some.inj hcq
          have e2 : t.ins[i] = p := by rw [List.getElem?_eq_getElem hln] at hcp; exact Option.some.inj hcp
          rw [e1, e2] at this
          exact this he.symm
        rw [hv9, if_pos hnd]
        simp
        exact fin0
      · simp [w1, -Int.natCast_add]
        refine round (k + 1) [0] ⟨by omega, ?_⟩ (by omega) (by simp [Ptr, I]) (by simp) (by simp) (by simp) (by simp)
        intro j x hj hx
        rcases Nat.lt_or_ge j k with g | g
        · exact hk2 j x g hx
        · obtain rfl : j = k := by omega
          rw [hcq] at hx
          obtain rfl := Option.some.inj hx
          exact he
    · have hki : k = i := by omega
      subst hki
      have w1 : IntKind.i64.wrap ((k : Int) + 1) = ((k + 1 : Nat) : Int) := wrap_i64 (by omega) (by omega)
      have hn2 : ((t.ins.take (k + 1)).map ptI).Nodup := by
        rw [take_s hcp, List.map_append, List.map_singleton, List.nodup_append]
        refine ⟨hn1, by simp, ?_⟩
        intro a ha b hb
        simp at hb; subst hb
        obtain ⟨x, hx, rfl⟩ := List.mem_map.1 ha
        obtain ⟨j, hj⟩ := List.getElem?_of_mem hx
        rw [List.getElem?_take] at hj
        split at hj
        · rename_i hjk
          exact fun e => hk2 j x hjk hj e.symm
        · simp at hj
      simp [w1, -Int.natCast_add]
      exact round (k + 1) [0] ⟨by omega, by rw [← List.map_take]; exact hn2⟩ (by omega) (by simp [Ptr, I]) (by simp) (by simp) (by simp) (by simp)
  have hil : i = t.ins.length := by omega
  subst hil
  rw [List.take_length] at hn1
  rw [hv9, if_neg (by simpa using hn1)]
  obtain ⟨V, hV⟩ : ∃ V, (if outsE t.outs ≠ 0 then outsE t.outs else (totO 0 t.outs).2) = V := ⟨_, rfl⟩
  rw [hV]
  clear hi1 hlt
  simp
  refine eloop (α := Nat) (fun i => i ≤ t.outs.length ∧ outsE t.outs = outsE (t.outs.drop i)) (fun i => t.outs.length - i)
    (fun i => [xA, Ptr 0, xA, xA, xA, xA, xA, I .i64 i, xA, xA, xA, xA, xA, xA, xA, xA, xA, xA, xA, xA, xA, xA, xA, xA, xA, xA, xA, xA, xA, xA, xA, xA, xA, xA, xA, xA, xA, xA, xA, xA, xA, xA, xA, xA, xA, xA, xA, xA, xA, xA, xA, xA, xA, xA, xA, xA, xA, xA, xA, xA, xA, xA, xA, xA, xA, xA, xA, xA, xA, xA, xA, xA, xA, xA, xA, xA, xA, xA, xA, xA, xA, xA, xA, xA, xA, xA, xA, xA, xA, xA, xA, xA, xA, xA, xA, xA, xA, xA, xA, xA, xA, xA, xA, xA, xA, xA, xA, xA, xA, xA, xA, xA, xA, xA, xA, xA, xA, xA, xA, xA, xA, xA, xA, xA, xA, xA, xA, xA, xA, xA, xA, xA, xA, xA, xA, xA, xA, xA, xA, xA, xA, xA, .any]) (fun _ => [some (.box 69 (txC t))]) 0 [0]
    ⟨by simp, by simp⟩ (by simp [I, Ptr]) (by simp [txC, iC]) (by simp) (by simp) (by simp) ?_
  rintro i ⟨hi1, hi2'⟩
  simp [I, Ptr, txC, iC]
  refine alt (fun hlt => ?_) (fun hlt => ?_)
  · have hln : i < t.outs.length := by omega
    obtain ⟨p, hcp⟩ : ∃ p, t.outs[i]? = some p := ⟨t.outs[i], by simp [hln]⟩
    have hge : (outv t.outs)[i]'(by simp [hln]) = outF p := gE (outv_get hcp)
    have hpo := h3 p (List.mem_of_getElem? hcp)
    rw [drop_cons hcp] at hi2'
    have w1 := wS (i := i) (by omega)
    have hbad : ouE p ≠ 0 → V = ouE p := fun q => by
      have hn : outsE t.outs = ouE p := by rw [hi2']; exact if_pos q
      rw [← hV, if_pos (by rw [hn]; exact q), hn]
    simp [hln, hge, outF, iF]
    by_cases g1 : p.am < 10
    · have g1' : ¬ 10 ≤ p.am := by omega
      have hou : ouE p = 27 := if_pos g1
      rw [hbad (by omega), hou]
      simp [g1, g1']
      exact fin0
    have g1' : 10 ≤ p.am := by omega
    by_cases g2 : 1125899906842624 < p.am
    · have g2' : ¬ p.am ≤ 1125899906842624 := by omega
      have hou : ouE p = 5 := by unfold ouE; rw [if_neg g1, if_pos g2]
      rw [hbad (by omega), hou]
      simp [g1, g1', g2, g2', hln, hge, outF, iF]
      exact fin0
    have g2' : p.am ≤ 1125899906842624 := by omega
    have hou : ouE p = cnE p.cs := by unfold ouE; rw [if_neg g1, if_neg g2]
    simp [g1, g1', g2, g2', hln, hge, outF, iF]
    refine call0 (RCCheck_ok p.cs hpo.2.1 hpo.2.2) (by simp [CNv]) ?_
    rintro y H' ⟨rfl, rfl⟩
    refine ⟨.inl (by simp [I]), le_ok rfl, ?_⟩
    by_cases c7 : cnE p.cs = 0
    · have hn : outsE t.outs = outsE (t.outs.drop (i + 1)) := by rw [hi2']; exact if_neg (by rw [hou]; simpa using c7)
      simp [I, c7, w1, -Int.natCast_add]
      exact round (i + 1) [0] ⟨by omega, hn⟩ (by omega) (by simp [I, Ptr]) (by simp) (by simp) (by simp) (by simp)
    · rw [hbad (by rw [hou]; exact c7), hou]
      simp [I, c7]
      exact fin0
  have hil : i = t.outs.length := by omega
  subst hil
  rw [List.drop_length] at hi2'
  have hz0 : outsE t.outs = 0 := hi2'
  rw [show V = (totO 0 t.outs).2 by rw [← hV, if_neg (by simpa using hz0)]]
  simp
  refine call0 (RTxTotal_ok t ht) (by simp [TXv, txC, iC]) ?_
  rintro y H' ⟨rfl, rfl⟩
  refine ⟨.inl (by simp [iC]), le_ok rfl, ?_⟩
  simp [iC]
  exact fin0
@[simp] def ylk7 : UL | _ => [xQ 0 4 (.box 28 (.t 0)), xQ 1 5 (.box 32 (.t 1)), xQ 2 7 (.box 23 (.t 3)), xQ 3 8 (.mov (.k xS)), xQ 4 9 (.mov (.k xS))]
@[simp] def ylk8 : UL | _ => [xQ 6 27 (.fad 34 (.t 4)), xQ 7 28 (.iad 2 1 (.t 27) (.t 26)), xQ 8 29 (.ldc (.t 28)), xM 9 10 24, xM 10 11 29]
@[simp] def ylk9 : UL | _ => xM 0 21 2 :: xQ 1 22 (.fad 34 (.t 4)) :: xQ 2 23 (.iad 2 1 (.t 22) (.t 21)) :: xQ 3 24 (.ldc (.t 23)) :: xM 4 25 2 :: xQ 5 26 (.bin .sub (xK 1) (.t 25)) :: hid ylk8
@[simp] def ylka : UL | _ => [xQ 6 36 (.fad 1 (.t 5)), xQ 7 37 (.iad 2 1 (.t 36) (xK 1)), xQ 8 38 (.ldc (.t 37)), xQ 9 39 (.build [xZ, xZ] [(0, 1, (.t 35)), (1, 1, (.t 38))]), xQ 10 12 (.alloc 26 [xZ, xZ]), xN 11 (.sto 2 (.t 12) (.t 39))]
@[simp] def ylkb : UL | _ => xQ 0 30 (.fad 1 (.t 5)) :: xQ 1 31 (.iad 2 1 (.t 30) (xK 0)) :: xQ 2 32 (.ldc (.t 31)) :: xQ 3 33 (.fad 37 (.t 4)) :: xQ 4 34 (.ldc (.t 33)) :: xQ 5 35 (.bin .sub (.t 32) (.t 34)) :: hid ylka
@[simp] def ylkc : UL | _ => [xM 0 40 11, xQ 1 41 (.bsl 1 [xZ] 1 [(0, (.t 40))]), xQ 2 42 (.lda 32 (.t 7)), xQ 3 43 (.build (([xS] : List Value) ++ zU8 ++ [xZ, xZ]) [(0, 1, (.t 41)), (1, 32, (.t 42))]), xQ 4 13 (.alloc 150 (([xS] : List Value) ++ zU8 ++ [xZ, xZ])), xN 5 (.fz (.sto 35 (.t 13) (.t 43)))]
@[simp] def ylkd : UL | _ => [xQ 0 14 (.mov (.k xS))]
@[simp] def ylke : UL | _ => [xQ 0 15 (.mov (.k xS))]
@[simp] def ylkf : UL | _ => [xM 0 44 2, xQ 1 45 (.iad 2 1 (.t 12) (.t 44)), xQ 2 46 (.ldc (.t 45)), xQ 3 47 (.bin .geq (.t 46) (xK 10))]
@[simp] def ylkg : UL | _ => [xQ 12 60 (.build [xZ, xS] [(0, 1, (.t 51)), (1, 1, (.t 59))]), ⟨13, (some 61), none, (.fz (.q (.bsl 2 [xZ, xS] 1 [(0, (.t 60))]))), [0]⟩, xO 14 62 (.app 148 2 32 (.t 48) (.t 61)), xM 15 14 62]
@[simp] def ylkh : UL | _ => xQ 6 54 (.fad 36 (.t 4)) :: xQ 7 55 (.ldc (.t 54)) :: xQ 8 56 (.build (([xS] : List Value) ++ zU8 ++ [xZ, xZ]) [(0, 1, (.t 53)), (34, 1, (.t 55))]) :: xQ 9 57 (.lda 35 (.t 13)) :: ⟨10, (some 58), none, (.fz (.q (.bsl 35 (([xS] : List Value) ++ zU8 ++ [xZ, xZ]) 2 [(0, (.t 56)), (1, (.t 57))]))), [0, 1, 2, 3]⟩ :: xQ 11 59 (.build [xS] [(0, 1, (.t 58))]) :: hid ylkg
@[simp] def ylki : UL | _ => xM 0 48 14 :: xM 1 49 2 :: xQ 2 50 (.iad 2 1 (.t 12) (.t 49)) :: xQ 3 51 (.ldc (.t 50)) :: xM 4 52 10 :: xQ 5 53 (.bsl 1 [xZ] 1 [(0, (.t 52))]) :: hid ylkh
@[simp] def ylkj : UL | _ => [xM 0 63 15, xQ 1 64 (.build [xZ, xZ] [(0, 1, (xK 1)), (1, 1, (xK 0))]), xQ 2 65 (.bsl 2 [xZ, xZ] 1 [(0, (.t 64))]), xO 3 66 (.app 55 2 16 (.t 63) (.t 65)), xM 4 15 66]
@[simp] def ybkk : UB | _ => .cond (.t 47) (.seq (reg1 (hid ylki) 16) (reg0 (hid ylkj) 5)) .skip
@[simp] def ylkl : UL | _ => [xM 0 67 2, xQ 1 68 (.bin .sub (xK 1) (.t 67)), xQ 2 69 (.iad 2 1 (.t 12) (.t 68)), xQ 3 70 (.ldc (.t 69)), xQ 4 71 (.bin .geq (.t 70) (xK 10))]
@[simp] def ylkm : UL | _ => [xQ 6 78 (.bsl 1 [xZ] 1 [(0, (.t 77))]), ⟨7, (some 79), none, (.call 58 [(.t 78)]), [0, 1, 2, 3, 4]⟩, xQ 8 80 (.build [xZ, xS] [(0, 1, (.t 76)), (1, 1, (.t 79))]), ⟨9, (some 81), none, (.fz (.q (.bsl 2 [xZ, xS] 1 [(0, (.t 80))]))), [0]⟩, xO 10 82 (.app 148 2 32 (.t 72) (.t 81)), xM 11 14 82]
@[simp] def ylkn : UL | _ => xM 0 72 14 :: xM 1 73 2 :: xQ 2 74 (.bin .sub (xK 1) (.t 73)) :: xQ 3 75 (.iad 2 1 (.t 12) (.t 74)) :: xQ 4 76 (.ldc (.t 75)) :: xM 5 77 11 :: hid ylkm
@[simp] def ylko : UL | _ => [xM 0 83 15, xQ 1 84 (.build [xZ, xZ] [(0, 1, (xK 2)), (1, 1, (xK 0))]), xQ 2 85 (.bsl 2 [xZ, xZ] 1 [(0, (.t 84))]), xO 3 86 (.app 55 2 16 (.t 83) (.t 85)), xM 4 15 86]
@[simp] def ybkp : UB | _ => .cond (.t 71) (.seq (reg1 (hid ylkn) 12) (reg0 (hid ylko) 5)) .skip
@[simp] def ylkq : UL | _ => [xQ 0 16 (.mov (xK 0))]
@[simp] def ylkr : UL | _ => [xM 0 87 16, xQ 1 88 (.fad 3 (.t 5)), xQ 2 89 (.ldc (.t 88)), xQ 3 90 (.len (.t 89)), xQ 4 91 (.bin .lss (.t 87) (.t 90))]
@[simp] def ylks : UL | _ => [xN 6 (.sto 36 (.t 17) (.t 98))]
@[simp] def ylkt : UL | _ => xQ 0 94 (.fad 3 (.t 5)) :: xQ 1 95 (.ldc (.t 94)) :: xM 2 96 16 :: xQ 3 97 (.isl 36 (.t 95) (.t 96)) :: xQ 4 98 (.lda 36 (.t 97)) :: xQ 5 17 (.alloc 127 (([xZ, xZ, xZ, xZ] : List Value) ++ zU8)) :: hid ylks
@[simp] def ylku : UL | _ => [xQ 6 105 (.bsl 1 [xZ] 1 [(0, (.t 104))]), xQ 7 106 (.fad 4 (.t 17)), xQ 8 107 (.lda 32 (.t 106)), xQ 9 108 (.build (([xS] : List Value) ++ zU8 ++ [xZ, xZ]) [(0, 1, (.t 105)), (1, 32, (.t 107))]), xQ 10 18 (.alloc 150 (([xS] : List Value) ++ zU8 ++ [xZ, xZ])), xN 11 (.fz (.sto 35 (.t 18) (.t 108)))]
@[simp] def ylkv : UL | _ => xQ 0 99 (.fad 1 (.t 17)) :: xQ 1 100 (.ldc (.t 99)) :: xQ 2 101 (.bin .sub (xK 1) (.t 100)) :: xQ 3 102 (.fad 34 (.t 4)) :: xQ 4 103 (.iad 2 1 (.t 102) (.t 101)) :: xQ 5 104 (.ldc (.t 103)) :: hid ylku
@[simp] def ylkw : UL | _ => [xQ 6 115 (.fad 3 (.t 17)), xQ 7 116 (.ldc (.t 115)), xQ 8 117 (.build (([xS] : List Value) ++ zU8 ++ [xZ, xZ]) [(0, 1, (.t 114)), (33, 1, (.t 116))]), xQ 9 19 (.alloc 150 (([xS] : List Value) ++ zU8 ++ [xZ, xZ])), xN 10 (.fz (.sto 35 (.t 19) (.t 117)))]
@[simp] def ylkx : UL | _ => xQ 0 109 (.fad 1 (.t 17)) :: xQ 1 110 (.ldc (.t 109)) :: xQ 2 111 (.fad 34 (.t 4)) :: xQ 3 112 (.iad 2 1 (.t 111) (.t 110)) :: xQ 4 113 (.ldc (.t 112)) :: xQ 5 114 (.bsl 1 [xZ] 1 [(0, (.t 113))]) :: hid ylkw
@[simp] def ylky : UL | _ => [xQ 0 118 (.fad 1 (.t 17)), xQ 1 119 (.ldc (.t 118)), xM 2 120 2, xQ 3 121 (.bin .eql (.t 119) (.t 120))]
@[simp] def ylkz : UL | _ => [xQ 0 122 (.fad 36 (.t 4)), xQ 1 123 (.ldc (.t 122)), xQ 2 124 (.fad 34 (.t 19)), xN 3 (.sto 1 (.t 124) (.t 123))]
@[simp] def yll0 : UL | _ => [xQ 0 125 (.fad 36 (.t 4)), xQ 1 126 (.ldc (.t 125)), xQ 2 127 (.fad 34 (.t 18)), xN 3 (.sto 1 (.t 127) (.t 126))]
@[simp] def ybl1 : UB | _ => .seq (reg0 (hid ylky) 4) (.cond (.t 121) (reg0 (hid ylkz) 4) (reg0 (hid yll0) 4))
@[simp] def yll2 : UL | _ => [xO 6 134 (.fz (.q (.bsl 35 (([xS] : List Value) ++ zU8 ++ [xZ, xZ]) 3 [(0, (.t 131)), (1, (.t 132)), (2, (.t 133))]))), xQ 7 135 (.build [xS] [(0, 1, (.t 134))]), xQ 8 136 (.build [xZ, xS] [(0, 1, (.t 130)), (1, 1, (.t 135))]), xO 9 137 (.fz (.q (.bsl 2 [xZ, xS] 1 [(0, (.t 136))]))), xO 10 138 (.app 148 2 32 (.t 128) (.t 137)), xM 11 14 138]
@[simp] def yll3 : UL | _ => xM 0 128 14 :: xQ 1 129 (.fad 2 (.t 17)) :: xQ 2 130 (.ldc (.t 129)) :: xQ 3 131 (.lda 35 (.t 18)) :: xQ 4 132 (.lda 35 (.t 19)) :: xQ 5 133 (.lda 35 (.t 13)) :: hid yll2
@[simp] def yll4 : UL | _ => [xM 6 15 144]
@[simp] def yll5 : UL | _ => xM 0 139 15 :: xQ 1 140 (.fad 0 (.t 17)) :: xQ 2 141 (.ldc (.t 140)) :: xQ 3 142 (.build [xZ, xZ] [(0, 1, (xK 3)), (1, 1, (.t 141))]) :: xQ 4 143 (.bsl 2 [xZ, xZ] 1 [(0, (.t 142))]) :: xO 5 144 (.app 55 2 16 (.t 139) (.t 143)) :: hid yll4
@[simp] def ybl6 : UB | _ => .seq (hid ybl1) (.seq (reg0 (hid yll3) 12) (reg0 (hid yll5) 7))
@[simp] def ybl7 : UB | _ => .seq (reg0 (hid ylkv) 12) (.seq (reg0 (hid ylkx) 11) (hid ybl6))
@[simp] def yll8 : UL | _ => [xM 0 92 16, xQ 1 93 (.bin .add (.t 92) (xK 1)), xM 2 16 93]
@[simp] def ybl9 : UB | _ => .seq (.block 1 (.seq (reg0 (hid ylkt) 7) (hid ybl7))) (reg0 (hid yll8) 3)
@[simp] def b_ROuts_74 : UB | _ => .seq (.seq (reg0 (hid ylkr) 5) (.cond (.t 91) .skip (.exit 0))) (hid ybl9)
@[simp] def ylla : UL | _ => [xQ 0 20 (.mov (xK 0))]
@[simp] def yllb : UL | _ => [xM 0 145 20, xQ 1 146 (.fad 4 (.t 5)), xQ 2 147 (.ldc (.t 146)), xQ 3 148 (.len (.t 147)), xQ 4 149 (.bin .lss (.t 145) (.t 148))]
@[simp] def yllc : UL | _ => [xQ 12 164 (.ldc (.t 163)), ⟨13, (some 165), none, (.call 58 [(.t 164)]), [0, 1, 2, 3, 4, 5, 6]⟩, xQ 14 166 (.build [xZ, xS] [(0, 1, (.t 158)), (1, 1, (.t 165))]), ⟨15, (some 167), none, (.fz (.q (.bsl 2 [xZ, xS] 1 [(0, (.t 166))]))), [0]⟩, xO 16 168 (.app 148 2 32 (.t 152) (.t 167)), xM 17 14 168]
@[simp] def ylld : UL | _ => xQ 6 158 (.ldc (.t 157)) :: xQ 7 159 (.fad 4 (.t 5)) :: xQ 8 160 (.ldc (.t 159)) :: xM 9 161 20 :: xQ 10 162 (.isl 3 (.t 160) (.t 161)) :: xQ 11 163 (.fad 2 (.t 162)) :: hid yllc
@[simp] def ylle : UL | _ => xM 0 152 14 :: xQ 1 153 (.fad 4 (.t 5)) :: xQ 2 154 (.ldc (.t 153)) :: xM 3 155 20 :: xQ 4 156 (.isl 3 (.t 154) (.t 155)) :: xQ 5 157 (.fad 1 (.t 156)) :: hid ylld
@[simp] def yllf : UL | _ => [xQ 6 175 (.ldc (.t 174)), xQ 7 176 (.build [xZ, xZ] [(0, 1, (xK 4)), (1, 1, (.t 175))]), xQ 8 177 (.bsl 2 [xZ, xZ] 1 [(0, (.t 176))]), xO 9 178 (.app 55 2 16 (.t 169) (.t 177)), xM 10 15 178]
@[simp] def yllg : UL | _ => xM 0 169 15 :: xQ 1 170 (.fad 4 (.t 5)) :: xQ 2 171 (.ldc (.t 170)) :: xM 3 172 20 :: xQ 4 173 (.isl 3 (.t 171) (.t 172)) :: xQ 5 174 (.fad 0 (.t 173)) :: hid yllf
@[simp] def yllh : UL | _ => [xM 0 150 20, xQ 1 151 (.bin .add (.t 150) (xK 1)), xM 2 20 151]
@[simp] def ybli : UB | _ => .seq (.block 3 (.seq (reg1 (hid ylle) 18) (reg0 (hid yllg) 11))) (reg0 (hid yllh) 3)
@[simp] def b_ROuts_96 : UB | _ => .seq (.seq (reg0 (hid yllb) 5) (.cond (.t 149) .skip (.exit 2))) (hid ybli)
@[simp] def yllj : UL | _ => [xM 0 179 14, xM 1 180 15, xM 2 8 179, xM 3 9 180]
@[simp] def yblk : UB | _ => .seq (.seq (reg0 (hid ylla) 1) (.block 2 (.loop (hid b_ROuts_96)))) (.seq (reg0 (hid yllj) 4) .ret)
@[simp] def ybll : UB | _ => .seq (.seq (reg0 (hid ylkq) 1) (.block 0 (.loop (hid b_ROuts_74)))) (hid yblk)
@[simp] def yblm : UB | _ => .seq (.seq (reg0 (hid ylkl) 5) (hid ybkp)) (hid ybll)
@[simp] def ybln : UB | _ => .seq (.seq (reg0 (hid ylkf) 4) (hid ybkk)) (hid yblm)
@[simp] def yblo : UB | _ => .seq (reg0 (hid ylkd) 1) (.seq (reg0 (hid ylke) 1) (hid ybln))
@[simp] def yblp : UB | _ => .seq (reg0 (hid ylkb) 12) (.seq (reg0 (hid ylkc) 6) (hid yblo))
@[simp] def yblq : UB | _ => .seq (reg0 (hid ylk7) 5) (.seq (reg0 (hid ylk9) 11) (hid yblp))
def c_ROuts : EB × List QOp × Nat := ((hid yblq), [(.mov (.t 8)), (.mov (.t 9))], 181)
theorem k_ROuts : cfun Tryz.prog 45 = some c_ROuts := by kernel_rfl
theorem rAll_ok (ks : List Int) (h : KeysOK ks) : ECalls Tryz.prog 58 [IL ks] [] fun y H' => H' = [] ∧ y = CNv (allB ks) := by
  obtain ⟨h1, h2, h3, h4, h5, h6⟩ := h
  have := cAll_ok ks h5 (by omega)
  rw [h6] at this
  exact this
def roT (s : Sta) (p : Prm) (o : Int) (lock : List UInt8) (L0 : List Outp) (Q0 : List (Int × Int)) (i : Nat) : List EV := [xA, xA, I .i64 o, xA, Ptr 0, Ptr 1, xA, xA, xA, xA, xA, xA, xA, Ptr 2, .v (.c (.row 3 (L0 ++ outP p o lock (s.pays.take i)).length)), .v (.c (.row 4 (Q0 ++ plcP (s.pays.take i)).length)), I .i64 i, xA, xA, xA, xA, xA, xA, xA, xA, xA, xA, xA, xA, xA, xA, xA, xA, xA, xA, xA, xA, xA, xA, xA, xA, xA, xA, xA, xA, xA, xA, xA, xA, xA, xA, xA, xA, xA, xA, xA, xA, xA, xA, xA, xA, xA, xA, xA, xA, xA, xA, xA, xA, xA, xA, xA, xA, xA, xA, xA, xA, xA, xA, xA, xA, xA, xA, xA, xA, xA, xA, xA, xA, xA, xA, xA, xA, xA, xA, xA, xA, xA, xA, xA, xA, xA, xA, xA, xA, xA, xA, xA, xA, xA, xA, xA, xA, xA, xA, xA, xA, xA, xA, xA, xA, xA, xA, xA, xA, xA, xA, xA, xA, xA, xA, xA, xA, xA, xA, xA, xA, xA, xA, xA, xA, xA, xA, xA, xA, xA, xA, xA, xA, xA, xA, xA, xA, xA, xA, xA, xA, xA, xA, xA, xA, xA, xA, xA, xA, xA, xA, xA, xA, xA, xA, xA, xA, xA, xA, xA, xA, xA, xA, xA, .any]
def roL (s : Sta) (p : Prm) (o : Int) (lock : List UInt8) (L0 : List Outp) (Q0 : List (Int × Int)) (i : Nat) : List (Option EO) := [some (.box 28 (prmC p)), some (.box 32 (staC s)), some (.box 150 (braC ⟨[keyO p (1 - o)], lock, 0, 0⟩)), some (.row 148 2 (outv (L0 ++ outP p o lock (s.pays.take i)))), some (.row 55 2 (plcv (Q0 ++ plcP (s.pays.take i))))]
def rhT (s : Sta) (Li : List Outp) (Qi : List (Int × Int)) (i : Nat) : List EV := [xA, xA, xA, xA, xA, Ptr 0, xA, xA, xA, xA, xA, xA, xA, xA, .v (.c (.row 1 (Li ++ outH (s.holds.take i)).length)), .v (.c (.row 2 (Qi ++ plcH (s.holds.take i)).length)), xA, xA, xA, xA, I .i64 i, xA, xA, xA, xA, xA, xA, xA, xA, xA, xA, xA, xA, xA, xA, xA, xA, xA, xA, xA, xA, xA, xA, xA, xA, xA, xA, xA, xA, xA, xA, xA, xA, xA, xA, xA, xA, xA, xA, xA, xA, xA, xA, xA, xA, xA, xA, xA, xA, xA, xA, xA, xA, xA, xA, xA, xA, xA, xA, xA, xA, xA, xA, xA, xA, xA, xA, xA, xA, xA, xA, xA, xA, xA, xA, xA, xA, xA, xA, xA, xA, xA, xA, xA, xA, xA, xA, xA, xA, xA, xA, xA, xA, xA, xA, xA, xA, xA, xA, xA, xA, xA, xA, xA, xA, xA, xA, xA, xA, xA, xA, xA, xA, xA, xA, xA, xA, xA, xA, xA, xA, xA, xA, xA, xA, xA, xA, xA, xA, xA, xA, xA, xA, xA, xA, xA, xA, xA, xA, xA, xA, xA, xA, xA, xA, xA, xA, xA, xA, xA, xA, xA, xA, xA, xA, xA, xA, xA, xA, xA, .any]
def rhL (s : Sta) (Li : List Outp) (Qi : List (Int × Int)) (i : Nat) : List (Option EO) := [some (.box 32 (staC s)), some (.row 148 2 (outv (Li ++ outH (s.holds.take i)))), some (.row 55 2 (plcv (Qi ++ plcH (s.holds.take i))))]
def roE (s : Sta) (p : Prm) (o : Int) (lock : List UInt8) (L0 : List Outp) (Q0 : List (Int × Int)) (i : Nat) : List EV := [xA, xA, I .i64 o, xA, Ptr 0, Ptr 1, xA, xA, xA, xA, xA, xA, xA, Ptr 2, .v (.c (.row 3 (L0 ++ outP p o lock (s.pays.take i)).length)), .v (.c (.row 4 (Q0 ++ plcP (s.pays.take i)).length)), I .i64 i, xA, xA, xA, xA, xA, xA, xA, xA, xA, xA, xA, xA, xA, xA, xA, xA, xA, xA, xA, xA, xA, xA, xA, xA, xA, xA, xA, xA, xA, xA, xA, xA, xA, xA, xA, xA, xA, xA, xA, xA, xA, xA, xA, xA, xA, xA, xA, xA, xA, xA, xA, xA, xA, xA, xA, xA, xA, xA, xA, xA, xA, xA, xA, xA, xA, xA, xA, xA, xA, xA, I .i64 i, .v (.c (.ptr 1 3)), PL s.pays, I .i64 i, .lit (.bool false), xA, xA, xA, xA, xA, xA, xA, xA, xA, xA, xA, xA, xA, xA, xA, xA, xA, xA, xA, xA, xA, xA, xA, xA, xA, xA, xA, xA, xA, xA, xA, xA, xA, xA, xA, xA, xA, xA, xA, xA, xA, xA, xA, xA, xA, xA, xA, xA, xA, xA, xA, xA, xA, xA, xA, xA, xA, xA, xA, xA, xA, xA, xA, xA, xA, xA, xA, xA, xA, xA, xA, xA, xA, xA, xA, xA, xA, xA, xA, xA, xA, xA, xA, xA, xA, xA, xA, xA, .any]
def rhE (s : Sta) (Li : List Outp) (Qi : List (Int × Int)) (i : Nat) : List EV := [xA, xA, xA, xA, xA, Ptr 0, xA, xA, xA, xA, xA, xA, xA, xA, .v (.c (.row 1 (Li ++ outH (s.holds.take i)).length)), .v (.c (.row 2 (Qi ++ plcH (s.holds.take i)).length)), xA, xA, xA, xA, I .i64 i, xA, xA, xA, xA, xA, xA, xA, xA, xA, xA, xA, xA, xA, xA, xA, xA, xA, xA, xA, xA, xA, xA, xA, xA, xA, xA, xA, xA, xA, xA, xA, xA, xA, xA, xA, xA, xA, xA, xA, xA, xA, xA, xA, xA, xA, xA, xA, xA, xA, xA, xA, xA, xA, xA, xA, xA, xA, xA, xA, xA, xA, xA, xA, xA, xA, xA, xA, xA, xA, xA, xA, xA, xA, xA, xA, xA, xA, xA, xA, xA, xA, xA, xA, xA, xA, xA, xA, xA, xA, xA, xA, xA, xA, xA, xA, xA, xA, xA, xA, xA, xA, xA, xA, xA, xA, xA, xA, xA, xA, xA, xA, xA, xA, xA, xA, xA, xA, xA, xA, xA, xA, xA, xA, xA, I .i64 i, .v (.c (.ptr 0 4)), HL s.holds, I .i64 i, .lit (.bool false), xA, xA, xA, xA, xA, xA, xA, xA, xA, xA, xA, xA, xA, xA, xA, xA, xA, xA, xA, xA, xA, xA, xA, xA, xA, xA, xA, xA, xA, xA, .any]
@[simp] theorem roL_len (s : Sta) (p : Prm) (o : Int) (lock : List UInt8) (L0 : List Outp) (Q0 : List (Int × Int)) (i : Nat) : (roL s p o lock L0 Q0 i).length = 5 := rfl
@[simp] theorem rhL_len (s : Sta) (Li : List Outp) (Qi : List (Int × Int)) (i : Nat) : (rhL s Li Qi i).length = 3 := rfl
set_option maxRecDepth 16000 in
theorem ROutsP (p : Prm) (s : Sta) (o : Int) (lock : List UInt8) (L0 : List Outp) (Q0 : List (Int × Int)) (ho : o = 0 ∨ o = 1) (hp : p.ok) (hl : lock.length = 32) (hs : s.ok) (hn : s.pays.length ≤ 8) (hpay : ∀ x ∈ s.pays, 10 ≤ x.am ∧ (x.fr = 0 ∨ x.fr = 1)) (hL8 : L0.length ≤ 2) (hQ8 : Q0.length ≤ 2)
    (Q : Exit → St → Go.EW.Tok → Prop) (hQ : ∀ n, Q (.exit 0) ⟨roE s p o lock L0 Q0 s.pays.length, ofO (roL s p o lock L0 Q0 s.pays.length), n⟩ .on) :
    LoopT Tryz.prog 0 (hid b_ROuts_74) Q ⟨roT s p o lock L0 Q0 0, ofO (roL s p o lock L0 Q0 0), 5⟩ := by
  have hpo := hp
  have h1 := hp.1
  obtain ⟨ok1, ok2, ok3, ok4, ok5, ok6, ok7⟩ := id hs
  have lp := prmC_len h1
  have tp := pm_take h1
  have e34 := idx_of (pm_at h1 2) (by omega)
  have e35 := idx_of (pm_at h1 3) (by omega)
  have e36 := idx_of (pm_at h1 4) (by omega)
  have lb : ∀ k, (braC (⟨[k], lock, 0, 0⟩ : Bra)).length = 35 := fun k => bc_len hl
  have tkb : ∀ k, (braC (⟨[k], lock, 0, 0⟩ : Bra)).take 35 = braC ⟨[k], lock, 0, 0⟩ := fun k => bc_take hl
  have fb : ∀ k, (braF (⟨[k], lock, 0, 0⟩ : Bra)).length = 35 := fun k => bf_len hl
  refine eloop (α := Nat) (fun i => i ≤ s.pays.length) (fun i => s.pays.length - i) (fun i => roT s p o lock L0 Q0 i) (fun i => roL s p o lock L0 Q0 i) 0 [0, 1, 2, 3, 4]
    (Nat.zero_le _) (by simp [roT, Ptr, I]) (by simp [roL, staC]) (by simp [roL]) (by simp) (by simp) ?_
  intro i hi
  obtain ⟨Li, hLi⟩ : ∃ Li, L0 ++ outP p o lock (s.pays.take i) = Li := ⟨_, rfl⟩
  obtain ⟨Qi, hQi⟩ : ∃ Qi, Q0 ++ plcP (s.pays.take i) = Qi := ⟨_, rfl⟩
  have hlL : Li.length ≤ 20 := by rw [← hLi]; simp [outP]; omega
  have hlQ : Qi.length ≤ 20 := by rw [← hQi]; simp [plcP]; omega
  by_cases hlt : i < s.pays.length
  · have hln : (i : Int) < s.pays.length := by omega
    obtain ⟨x, hc⟩ : ∃ x, s.pays[i]? = some x := ⟨s.pays[i], by simp [hlt]⟩
    have hge : (payv s.pays)[i]'(by simp [hlt]) = payF x := gE (payv_get hc)
    have hxo := ok4 x (List.mem_of_getElem? hc)
    have hx := hxo.2.2.2.2
    obtain ⟨ham, hfr⟩ := hpay x (List.mem_of_getElem? hc)
    have w1 := wS (i := i) (by omega)
    have hLn : L0 ++ outP p o lock (s.pays.take (i + 1)) = Li ++ [⟨x.am, paidB p o lock x⟩] := by rw [take_s hc, ← hLi]; simp [outP]
    have hQn : Q0 ++ plcP (s.pays.take (i + 1)) = Qi ++ [(3, x.id)] := by rw [take_s hc, ← hQi]; simp [plcP]
    have q1 := congrArg List.length hLn
    have q2 := congrArg List.length hQn
    simp only [List.length_append, List.length_singleton] at q1 q2
    simp only [roT, roL, hLi, hQi]
    obtain ⟨id', fr, am, af, lk⟩ := x
    dsimp only at hfr hx hLn hQn
    rcases hfr with rfl | rfl <;> rcases ho with rfl | rfl
    all_goals
      simp [Ptr, I, staC, keyO, hln, hlt, hge, payF, hx, PVv, SV, staC, I, Ptr, iC, lp, tp, e34, e35, e36, w_0, w_1, hl, hc_t32 hl, take33h, take32h, drop32h, drop33h, drop34h, take33l hl, drop34l hl, take34l hl, hz_len, frzAll_hc, hc_t32 hx, take33l hx, drop34l hx, take34l hx, take34l hz_len, lb, tkb, fb]
      refine ⟨⟨by omega, by omega⟩, ⟨by omega, by omega⟩, ?_⟩
      try simp [w1, -Int.natCast_add]
      refine round (i + 1) [0, 1, 2, 853, 965] (by omega) (by omega) (by simp [roT, Ptr, I, q1, q2]) ?_ (by simp [roL]) (by simp) (by simp)
      rw [hLn, hQn]
      simp [q1, q2, w1, -Int.natCast_add, staC]
      simp [outv, outF, brav, braF, ownB, paidB, waitV, fineB, keyO, intv, iF, plcv, plcF]
  · have hil : i = s.pays.length := by omega
    subst hil
    simp [roT, roL, Ptr, I, staC]
    refine cast ?_ (hQ 85)
    simp [roE, roL, Ptr, I, staC, PL]
set_option maxRecDepth 16000 in
theorem ROutsH (s : Sta) (Li : List Outp) (Qi : List (Int × Int)) (hs : s.ok) (hn : s.holds.length ≤ 8) (hhol : ∀ h ∈ s.holds, KeysOK h.keys) (hlL : Li.length ≤ 20) (hlQ : Qi.length ≤ 20)
    (Q : Exit → St → Go.EW.Tok → Prop) (hQ : ∀ n, Q (.exit 2) ⟨rhE s Li Qi s.holds.length, ofO (rhL s Li Qi s.holds.length), n⟩ .on) :
    LoopT Tryz.prog 0 (hid b_ROuts_96) Q ⟨rhT s Li Qi 0, ofO (rhL s Li Qi 0), 3⟩ := by
  refine eloop (α := Nat) (fun i => i ≤ s.holds.length) (fun i => s.holds.length - i) (fun i => rhT s Li Qi i) (fun i => rhL s Li Qi i) 0 [0, 1, 2]
    (Nat.zero_le _) (by simp [rhT, Ptr, I]) (by simp [rhL, staC]) (by simp [rhL]) (by simp) (by simp) ?_
  intro i hi
  obtain ⟨Lj, hLj⟩ : ∃ Lj, Li ++ outH (s.holds.take i) = Lj := ⟨_, rfl⟩
  obtain ⟨Qj, hQj⟩ : ∃ Qj, Qi ++ plcH (s.holds.take i) = Qj := ⟨_, rfl⟩
  have hlL2 : Lj.length ≤ 40 := by rw [← hLj]; simp [outH]; omega
  have hlQ2 : Qj.length ≤ 40 := by rw [← hQj]; simp [plcH]; omega
  by_cases hlt : i < s.holds.length
  · have hln : (i : Int) < s.holds.length := by omega
    obtain ⟨x, hc⟩ : ∃ x, s.holds[i]? = some x := ⟨s.holds[i], by simp [hlt]⟩
    have hge : (holv s.holds)[i]'(by simp [hlt]) = holF x := gE (holv_get hc)
    have hk := hhol x (List.mem_of_getElem? hc)
    have w1 := wS (i := i) (by omega)
    have hLn : Li ++ outH (s.holds.take (i + 1)) = Lj ++ [⟨x.am, allB x.keys⟩] := by rw [take_s hc, ← hLj]; simp [outH]
    have hQn : Qi ++ plcH (s.holds.take (i + 1)) = Qj ++ [(4, x.id)] := by rw [take_s hc, ← hQj]; simp [plcH]
    simp only [rhT, rhL, hLj, hQj]
    simp [Ptr, I, staC, hln, hlt, hge, holF]
    refine call0 (rAll_ok x.keys hk) (by simp [IL]) ?_
    rintro y H' ⟨rfl, rfl⟩
    refine ⟨.inl (by simp [CNv]), le_ok rfl, ?_⟩
    simp [CNv, hln, hlt, hge, holF]
    refine ⟨⟨by omega, by omega⟩, ⟨by omega, by omega⟩, ?_⟩
    try simp [w1, -Int.natCast_add]
    have q1 := congrArg List.length hLn
    have q2 := congrArg List.length hQn
    simp only [List.length_append, List.length_singleton] at q1 q2
    have hol : outv Lj ++ [[FV.lit (Value.int IntKind.i64 x.am), FV.sl 35 (brav (allB x.keys))]] = outv (Lj ++ [⟨x.am, allB x.keys⟩]) := by simp [outv, outF, iF]
    have hpl : plcv Qj ++ [[FV.lit (Value.int IntKind.i64 4), FV.lit (Value.int IntKind.i64 x.id)]] = plcv (Qj ++ [(4, x.id)]) := by simp [plcv, plcF, iF]
    refine round (i + 1) [0, 339, 515] (by omega) (by omega) (by simp [rhT, Ptr, I, q1, q2]) ?_ (by simp [rhL]) (by simp) (by simp)
    rw [hLn, hQn]
    simp [q1, q2, hol, hpl, staC]
  · have hil : i = s.holds.length := by omega
    subst hil
    simp [rhT, rhL, Ptr, I, staC]
    refine cast ?_ (hQ 83)
    simp [rhE, rhL, Ptr, I, staC, HL]
set_option maxRecDepth 16000 in
theorem ROuts_0 (p : Prm) (s : Sta) (lock : List UInt8) (hp : p.ok) (hl : lock.length = 32) (hs : s.ok) (hw : i64 (s.h0 - p.fe)) (hn : s.pays.length ≤ 8 ∧ s.holds.length ≤ 8) (hpay : ∀ x ∈ s.pays, 10 ≤ x.am ∧ (x.fr = 0 ∨ x.fr = 1)) (hhol : ∀ h ∈ s.holds, KeysOK h.keys) :
    ECalls Tryz.prog 45 [PVv p, SV s, I .i64 0, .v (.agg (hc lock))] [] fun y H' => H' = [] ∧ y = .tup [.c (.fz (.sl 2 (outv (outsB p s 0 lock)))), .c (.fz (.sl 2 (plcv (plcB p s 0))))] := by
  have h1 := hp.1
  have lp := prmC_len h1
  have tp := pm_take h1
  have e34 := idx_of (pm_at h1 2) (by omega)
  have e35 := idx_of (pm_at h1 3) (by omega)
  have e36 := idx_of (pm_at h1 4) (by omega)
  have e37 := idx_of (pm_at h1 5) (by omega)
  have wh : IntKind.i64.wrap (s.h0 - p.fe) = s.h0 - p.fe := by unfold i64 at hw; exact wrap_i64 (by omega) (by omega)
  obtain ⟨L0, hL0⟩ : ∃ L0, out1 p s 0 lock ++ out2 p s 0 = L0 := ⟨_, rfl⟩
  obtain ⟨Q0, hQ0⟩ : ∃ Q0, plc1 p s 0 ++ plc2 p s 0 = Q0 := ⟨_, rfl⟩
  have hL8 : L0.length ≤ 2 := by rw [← hL0]; unfold out1 out2; split <;> split <;> simp
  have hQ8 : Q0.length ≤ 2 := by rw [← hQ0]; unfold plc1 plc2; split <;> split <;> simp
  have hvL : outsB p s 0 lock = L0 ++ (outP p 0 lock s.pays ++ outH s.holds) := by rw [← hL0]; rfl
  have hvQ : plcB p s 0 = Q0 ++ (plcP s.pays ++ plcH s.holds) := by rw [← hQ0]; rfl
  refine ecalls k_ROuts ?_
  simp [c_ROuts, PVv, SV, staC, I, Ptr, iC, lp, tp, e34, e35, e36, e37, w_0, w_1, wh, hl, hc_t32 hl, take33h, take32h, drop32h, drop33h, drop34h, take33l hl, drop34l hl, take34l hl, hz_len, frzAll_hc]
  simp only [bfold]
  have lb := bc_len (b := (⟨[p.k1], lock, 0, 0⟩ : Bra)) hl
  have tkb := bc_take (b := (⟨[p.k1], lock, 0, 0⟩ : Bra)) hl
  have fb := bf_len (b := (⟨[p.k1], lock, 0, 0⟩ : Bra)) hl
  have lo := bf_len (b := (⟨[p.k0], hz, 0, p.dl⟩ : Bra)) hz_len
  by_cases c0 : 10 ≤ s.h0 - p.fe <;> by_cases c1 : 10 ≤ s.h1
  have hL1 : L0 = ([⟨s.h0 - p.fe, ownB p 0 lock⟩] ++ [⟨s.h1, allB [p.k1]⟩] : List Outp) := by rw [← hL0, show out1 p s 0 lock = [⟨s.h0 - p.fe, ownB p 0 lock⟩] from if_pos c0, show out2 p s 0 = [⟨s.h1, allB [p.k1]⟩] from if_pos c1]
  have hQ1 : Q0 = ([(1, 0)] ++ [(2, 0)] : List (Int × Int)) := by rw [← hQ0, show plc1 p s 0 = [(1, 0)] from if_pos c0, show plc2 p s 0 = [(2, 0)] from if_pos c1]
  simp [c0, PVv, SV, staC, I, Ptr, iC, lp, tp, e34, e35, e36, e37, w_0, w_1, wh, hl, hc_t32 hl, take33h, take32h, drop32h, drop33h, drop34h, take33l hl, drop34l hl, take34l hl, hz_len, frzAll_hc, lb, tkb, fb, lo]
  simp [c1, PVv, SV, staC, I, Ptr, iC, lp, tp, e34, e35, e36, e37, w_0, w_1, wh, hl, hc_t32 hl, take33h, take32h, drop32h, drop33h, drop34h, take33l hl, drop34l hl, take34l hl, hz_len, frzAll_hc]
  refine call0 (rAll_ok [p.k1] (keys_one _).1) (by simp [IL, intv, PVv, SV, staC, I, Ptr, iC, lp, tp, e34, e35, e36, e37, w_0, w_1, wh, hl, hc_t32 hl, take33h, take32h, drop32h, drop33h, drop34h, take33l hl, drop34l hl, take34l hl, hz_len, frzAll_hc]) ?_
  rintro y H' ⟨rfl, rfl⟩
  refine ⟨.inl (by simp [CNv]), le_ok rfl, ?_⟩
  simp [CNv, PVv, SV, staC, I, Ptr, iC, lp, tp, e34, e35, e36, e37, w_0, w_1, wh, hl, hc_t32 hl, take33h, take32h, drop32h, drop33h, drop34h, take33l hl, drop34l hl, take34l hl, hz_len, frzAll_hc]
  refine loopW _ (weak_norm [0, 16, 512, 1216, 1296] (roT s p 0 lock L0 Q0 0) (roL s p 0 lock L0 Q0 0) (by simp [roT, Ptr, I, outP, plcP, hL1, hQ1]) (by simp [roL, outv, outF, brav, braF, ownB, paidB, waitV, fineB, keyO, intv, iF, plcv, plcF, outP, plcP, staC, hL1, hQ1]) (by simp [roL]) (by simp) (by simp)) ?_
  refine ROutsP p s 0 lock L0 Q0 (by simp) hp hl hs hn.1 hpay hL8 hQ8 _ ?_
  rotate_left 1
  have hL1 : L0 = ([⟨s.h0 - p.fe, ownB p 0 lock⟩] ++ [] : List Outp) := by rw [← hL0, show out1 p s 0 lock = [⟨s.h0 - p.fe, ownB p 0 lock⟩] from if_pos c0, show out2 p s 0 = [] from if_neg c1]
  have hQ1 : Q0 = ([(1, 0)] ++ [] : List (Int × Int)) := by rw [← hQ0, show plc1 p s 0 = [(1, 0)] from if_pos c0, show plc2 p s 0 = [] from if_neg c1]
  simp [c0, PVv, SV, staC, I, Ptr, iC, lp, tp, e34, e35, e36, e37, w_0, w_1, wh, hl, hc_t32 hl, take33h, take32h, drop32h, drop33h, drop34h, take33l hl, drop34l hl, take34l hl, hz_len, frzAll_hc, lb, tkb, fb, lo]
  simp [c1, PVv, SV, staC, I, Ptr, iC, lp, tp, e34, e35, e36, e37, w_0, w_1, wh, hl, hc_t32 hl, take33h, take32h, drop32h, drop33h, drop34h, take33l hl, drop34l hl, take34l hl, hz_len, frzAll_hc]
  refine loopW _ (weak_norm [0, 16, 512, 864, 944] (roT s p 0 lock L0 Q0 0) (roL s p 0 lock L0 Q0 0) (by simp [roT, Ptr, I, outP, plcP, hL1, hQ1]) (by simp [roL, outv, outF, brav, braF, ownB, paidB, waitV, fineB, keyO, intv, iF, plcv, plcF, outP, plcP, staC, hL1, hQ1]) (by simp [roL]) (by simp) (by simp)) ?_
  refine ROutsP p s 0 lock L0 Q0 (by simp) hp hl hs hn.1 hpay hL8 hQ8 _ ?_
  rotate_left 1
  have hL1 : L0 = ([] ++ [⟨s.h1, allB [p.k1]⟩] : List Outp) := by rw [← hL0, show out1 p s 0 lock = [] from if_neg c0, show out2 p s 0 = [⟨s.h1, allB [p.k1]⟩] from if_pos c1]
  have hQ1 : Q0 = ([] ++ [(2, 0)] : List (Int × Int)) := by rw [← hQ0, show plc1 p s 0 = [] from if_neg c0, show plc2 p s 0 = [(2, 0)] from if_pos c1]
  simp [c0, PVv, SV, staC, I, Ptr, iC, lp, tp, e34, e35, e36, e37, w_0, w_1, wh, hl, hc_t32 hl, take33h, take32h, drop32h, drop33h, drop34h, take33l hl, drop34l hl, take34l hl, hz_len, frzAll_hc, lb, tkb, fb, lo]
  simp [c1, PVv, SV, staC, I, Ptr, iC, lp, tp, e34, e35, e36, e37, w_0, w_1, wh, hl, hc_t32 hl, take33h, take32h, drop32h, drop33h, drop34h, take33l hl, drop34l hl, take34l hl, hz_len, frzAll_hc]
  refine call0 (rAll_ok [p.k1] (keys_one _).1) (by simp [IL, intv, PVv, SV, staC, I, Ptr, iC, lp, tp, e34, e35, e36, e37, w_0, w_1, wh, hl, hc_t32 hl, take33h, take32h, drop32h, drop33h, drop34h, take33l hl, drop34l hl, take34l hl, hz_len, frzAll_hc]) ?_
  rintro y H' ⟨rfl, rfl⟩
  refine ⟨.inl (by simp [CNv]), le_ok rfl, ?_⟩
  simp [CNv, PVv, SV, staC, I, Ptr, iC, lp, tp, e34, e35, e36, e37, w_0, w_1, wh, hl, hc_t32 hl, take33h, take32h, drop32h, drop33h, drop34h, take33l hl, drop34l hl, take34l hl, hz_len, frzAll_hc]
  refine loopW _ (weak_norm [0, 16, 512, 880, 960] (roT s p 0 lock L0 Q0 0) (roL s p 0 lock L0 Q0 0) (by simp [roT, Ptr, I, outP, plcP, hL1, hQ1]) (by simp [roL, outv, outF, brav, braF, ownB, paidB, waitV, fineB, keyO, intv, iF, plcv, plcF, outP, plcP, staC, hL1, hQ1]) (by simp [roL]) (by simp) (by simp)) ?_
  refine ROutsP p s 0 lock L0 Q0 (by simp) hp hl hs hn.1 hpay hL8 hQ8 _ ?_
  rotate_left 1
  have hL1 : L0 = ([] ++ [] : List Outp) := by rw [← hL0, show out1 p s 0 lock = [] from if_neg c0, show out2 p s 0 = [] from if_neg c1]
  have hQ1 : Q0 = ([] ++ [] : List (Int × Int)) := by rw [← hQ0, show plc1 p s 0 = [] from if_neg c0, show plc2 p s 0 = [] from if_neg c1]
  simp [c0, PVv, SV, staC, I, Ptr, iC, lp, tp, e34, e35, e36, e37, w_0, w_1, wh, hl, hc_t32 hl, take33h, take32h, drop32h, drop33h, drop34h, take33l hl, drop34l hl, take34l hl, hz_len, frzAll_hc, lb, tkb, fb, lo]
  simp [c1, PVv, SV, staC, I, Ptr, iC, lp, tp, e34, e35, e36, e37, w_0, w_1, wh, hl, hc_t32 hl, take33h, take32h, drop32h, drop33h, drop34h, take33l hl, drop34l hl, take34l hl, hz_len, frzAll_hc]
  refine loopW _ (weak_nilR 14 148 2 rfl (by omega)) (loopW _ (weak_nilR 15 55 2 rfl (by omega)) ?_)
  refine loopW _ (weak_norm [0, 16, 512, 736, 737] (roT s p 0 lock L0 Q0 0) (roL s p 0 lock L0 Q0 0) (by simp [roT, Ptr, I, outP, plcP, hL1, hQ1]) (by simp [roL, outv, outF, brav, braF, ownB, paidB, waitV, fineB, keyO, intv, iF, plcv, plcF, outP, plcP, staC, hL1, hQ1]) (by simp [roL]) (by simp) (by simp)) ?_
  refine ROutsP p s 0 lock L0 Q0 (by simp) hp hl hs hn.1 hpay hL8 hQ8 _ ?_
  rotate_left 1
  all_goals
    intro n
    obtain ⟨Li, hLi⟩ : ∃ Li, L0 ++ outP p 0 lock s.pays = Li := ⟨_, rfl⟩
    obtain ⟨Qi, hQi⟩ : ∃ Qi, Q0 ++ plcP s.pays = Qi := ⟨_, rfl⟩
    have hlL : Li.length ≤ 20 := by rw [← hLi]; simp [outP]; omega
    have hlQ : Qi.length ≤ 20 := by rw [← hQi]; simp [plcP]; omega
    simp [roE, roL, hLi, hQi, Ptr, I, staC]
    refine loopW _ (weak_norm [1, 3, 4] (rhT s Li Qi 0) (rhL s Li Qi 0) (by simp [rhT, Ptr, I, outH, plcH]) (by simp [rhL, outH, plcH, staC]) (by simp [rhL]) (by simp) (by simp)) ?_
    refine ROutsH s Li Qi hs hn.2 hhol hlL hlQ _ ?_
    intro n
    have hL9 : outsB p s 0 lock = Li ++ outH s.holds := by rw [hvL, ← hLi, List.append_assoc]
    have hQ9 : plcB p s 0 = Qi ++ plcH s.holds := by rw [hvQ, ← hQi, List.append_assoc]
    obtain ⟨Lj, hLj⟩ : ∃ Lj, Li ++ outH s.holds = Lj := ⟨_, rfl⟩
    obtain ⟨Qj, hQj⟩ : ∃ Qj, Qi ++ plcH s.holds = Qj := ⟨_, rfl⟩
    rw [hL9, hQ9, hLj, hQj]
    simp [rhE, rhL, hLj, hQj, Ptr, I, staC]
    refine finW _ (weak_frz (o := 1) (ty := 148) (es := 2) (xs := outv Lj) rfl) ?_
    refine finW _ (weak_frz (o := 2) (ty := 55) (es := 2) (xs := plcv Qj) rfl) ?_
    refine fin [] (by decide) rfl rfl rfl ⟨rfl, ?_⟩
    simp [List.take_of_length_le]
set_option maxRecDepth 16000 in
theorem ROuts_1 (p : Prm) (s : Sta) (lock : List UInt8) (hp : p.ok) (hl : lock.length = 32) (hs : s.ok) (hw : i64 (s.h0 - p.fe)) (hn : s.pays.length ≤ 8 ∧ s.holds.length ≤ 8) (hpay : ∀ x ∈ s.pays, 10 ≤ x.am ∧ (x.fr = 0 ∨ x.fr = 1)) (hhol : ∀ h ∈ s.holds, KeysOK h.keys) :
    ECalls Tryz.prog 45 [PVv p, SV s, I .i64 1, .v (.agg (hc lock))] [] fun y H' => H' = [] ∧ y = .tup [.c (.fz (.sl 2 (outv (outsB p s 1 lock)))), .c (.fz (.sl 2 (plcv (plcB p s 1))))] := by
  have h1 := hp.1
  have lp := prmC_len h1
  have tp := pm_take h1
  have e34 := idx_of (pm_at h1 2) (by omega)
  have e35 := idx_of (pm_at h1 3) (by omega)
  have e36 := idx_of (pm_at h1 4) (by omega)
  have e37 := idx_of (pm_at h1 5) (by omega)
  have wh : IntKind.i64.wrap (s.h0 - p.fe) = s.h0 - p.fe := by unfold i64 at hw; exact wrap_i64 (by omega) (by omega)
  obtain ⟨L0, hL0⟩ : ∃ L0, out1 p s 1 lock ++ out2 p s 1 = L0 := ⟨_, rfl⟩
  obtain ⟨Q0, hQ0⟩ : ∃ Q0, plc1 p s 1 ++ plc2 p s 1 = Q0 := ⟨_, rfl⟩
  have hL8 : L0.length ≤ 2 := by rw [← hL0]; unfold out1 out2; split <;> split <;> simp
  have hQ8 : Q0.length ≤ 2 := by rw [← hQ0]; unfold plc1 plc2; split <;> split <;> simp
  have hvL : outsB p s 1 lock = L0 ++ (outP p 1 lock s.pays ++ outH s.holds) := by rw [← hL0]; rfl
  have hvQ : plcB p s 1 = Q0 ++ (plcP s.pays ++ plcH s.holds) := by rw [← hQ0]; rfl
  refine ecalls k_ROuts ?_
  simp [c_ROuts, PVv, SV, staC, I, Ptr, iC, lp, tp, e34, e35, e36, e37, w_0, w_1, wh, hl, hc_t32 hl, take33h, take32h, drop32h, drop33h, drop34h, take33l hl, drop34l hl, take34l hl, hz_len, frzAll_hc]
  simp only [bfold]
  have lb := bc_len (b := (⟨[p.k0], lock, 0, 0⟩ : Bra)) hl
  have tkb := bc_take (b := (⟨[p.k0], lock, 0, 0⟩ : Bra)) hl
  have fb := bf_len (b := (⟨[p.k0], lock, 0, 0⟩ : Bra)) hl
  have lo := bf_len (b := (⟨[p.k1], hz, 0, p.dl⟩ : Bra)) hz_len
  by_cases c0 : 10 ≤ s.h1 <;> by_cases c1 : 10 ≤ s.h0 - p.fe
  have hL1 : L0 = ([⟨s.h1, ownB p 1 lock⟩] ++ [⟨s.h0 - p.fe, allB [p.k0]⟩] : List Outp) := by rw [← hL0, show out1 p s 1 lock = [⟨s.h1, ownB p 1 lock⟩] from if_pos c0, show out2 p s 1 = [⟨s.h0 - p.fe, allB [p.k0]⟩] from if_pos c1]
  have hQ1 : Q0 = ([(1, 0)] ++ [(2, 0)] : List (Int × Int)) := by rw [← hQ0, show plc1 p s 1 = [(1, 0)] from if_pos c0, show plc2 p s 1 = [(2, 0)] from if_pos c1]
  simp [c0, PVv, SV, staC, I, Ptr, iC, lp, tp, e34, e35, e36, e37, w_0, w_1, wh, hl, hc_t32 hl, take33h, take32h, drop32h, drop33h, drop34h, take33l hl, drop34l hl, take34l hl, hz_len, frzAll_hc, lb, tkb, fb, lo]
  simp [c1, PVv, SV, staC, I, Ptr, iC, lp, tp, e34, e35, e36, e37, w_0, w_1, wh, hl, hc_t32 hl, take33h, take32h, drop32h, drop33h, drop34h, take33l hl, drop34l hl, take34l hl, hz_len, frzAll_hc]
  refine call0 (rAll_ok [p.k0] (keys_one _).1) (by simp [IL, intv, PVv, SV, staC, I, Ptr, iC, lp, tp, e34, e35, e36, e37, w_0, w_1, wh, hl, hc_t32 hl, take33h, take32h, drop32h, drop33h, drop34h, take33l hl, drop34l hl, take34l hl, hz_len, frzAll_hc]) ?_
  rintro y H' ⟨rfl, rfl⟩
  refine ⟨.inl (by simp [CNv]), le_ok rfl, ?_⟩
  simp [CNv, PVv, SV, staC, I, Ptr, iC, lp, tp, e34, e35, e36, e37, w_0, w_1, wh, hl, hc_t32 hl, take33h, take32h, drop32h, drop33h, drop34h, take33l hl, drop34l hl, take34l hl, hz_len, frzAll_hc]
  refine loopW _ (weak_norm [0, 16, 512, 1216, 1296] (roT s p 1 lock L0 Q0 0) (roL s p 1 lock L0 Q0 0) (by simp [roT, Ptr, I, outP, plcP, hL1, hQ1]) (by simp [roL, outv, outF, brav, braF, ownB, paidB, waitV, fineB, keyO, intv, iF, plcv, plcF, outP, plcP, staC, hL1, hQ1]) (by simp [roL]) (by simp) (by simp)) ?_
  refine ROutsP p s 1 lock L0 Q0 (by simp) hp hl hs hn.1 hpay hL8 hQ8 _ ?_
  rotate_left 1
  have hL1 : L0 = ([⟨s.h1, ownB p 1 lock⟩] ++ [] : List Outp) := by rw [← hL0, show out1 p s 1 lock = [⟨s.h1, ownB p 1 lock⟩] from if_pos c0, show out2 p s 1 = [] from if_neg c1]
  have hQ1 : Q0 = ([(1, 0)] ++ [] : List (Int × Int)) := by rw [← hQ0, show plc1 p s 1 = [(1, 0)] from if_pos c0, show plc2 p s 1 = [] from if_neg c1]
  simp [c0, PVv, SV, staC, I, Ptr, iC, lp, tp, e34, e35, e36, e37, w_0, w_1, wh, hl, hc_t32 hl, take33h, take32h, drop32h, drop33h, drop34h, take33l hl, drop34l hl, take34l hl, hz_len, frzAll_hc, lb, tkb, fb, lo]
  simp [c1, PVv, SV, staC, I, Ptr, iC, lp, tp, e34, e35, e36, e37, w_0, w_1, wh, hl, hc_t32 hl, take33h, take32h, drop32h, drop33h, drop34h, take33l hl, drop34l hl, take34l hl, hz_len, frzAll_hc]
  refine loopW _ (weak_norm [0, 16, 512, 864, 944] (roT s p 1 lock L0 Q0 0) (roL s p 1 lock L0 Q0 0) (by simp [roT, Ptr, I, outP, plcP, hL1, hQ1]) (by simp [roL, outv, outF, brav, braF, ownB, paidB, waitV, fineB, keyO, intv, iF, plcv, plcF, outP, plcP, staC, hL1, hQ1]) (by simp [roL]) (by simp) (by simp)) ?_
  refine ROutsP p s 1 lock L0 Q0 (by simp) hp hl hs hn.1 hpay hL8 hQ8 _ ?_
  rotate_left 1
  have hL1 : L0 = ([] ++ [⟨s.h0 - p.fe, allB [p.k0]⟩] : List Outp) := by rw [← hL0, show out1 p s 1 lock = [] from if_neg c0, show out2 p s 1 = [⟨s.h0 - p.fe, allB [p.k0]⟩] from if_pos c1]
  have hQ1 : Q0 = ([] ++ [(2, 0)] : List (Int × Int)) := by rw [← hQ0, show plc1 p s 1 = [] from if_neg c0, show plc2 p s 1 = [(2, 0)] from if_pos c1]
  simp [c0, PVv, SV, staC, I, Ptr, iC, lp, tp, e34, e35, e36, e37, w_0, w_1, wh, hl, hc_t32 hl, take33h, take32h, drop32h, drop33h, drop34h, take33l hl, drop34l hl, take34l hl, hz_len, frzAll_hc, lb, tkb, fb, lo]
  simp [c1, PVv, SV, staC, I, Ptr, iC, lp, tp, e34, e35, e36, e37, w_0, w_1, wh, hl, hc_t32 hl, take33h, take32h, drop32h, drop33h, drop34h, take33l hl, drop34l hl, take34l hl, hz_len, frzAll_hc]
  refine call0 (rAll_ok [p.k0] (keys_one _).1) (by simp [IL, intv, PVv, SV, staC, I, Ptr, iC, lp, tp, e34, e35, e36, e37, w_0, w_1, wh, hl, hc_t32 hl, take33h, take32h, drop32h, drop33h, drop34h, take33l hl, drop34l hl, take34l hl, hz_len, frzAll_hc]) ?_
  rintro y H' ⟨rfl, rfl⟩
  refine ⟨.inl (by simp [CNv]), le_ok rfl, ?_⟩
  simp [CNv, PVv, SV, staC, I, Ptr, iC, lp, tp, e34, e35, e36, e37, w_0, w_1, wh, hl, hc_t32 hl, take33h, take32h, drop32h, drop33h, drop34h, take33l hl, drop34l hl, take34l hl, hz_len, frzAll_hc]
  refine loopW _ (weak_norm [0, 16, 512, 880, 960] (roT s p 1 lock L0 Q0 0) (roL s p 1 lock L0 Q0 0) (by simp [roT, Ptr, I, outP, plcP, hL1, hQ1]) (by simp [roL, outv, outF, brav, braF, ownB, paidB, waitV, fineB, keyO, intv, iF, plcv, plcF, outP, plcP, staC, hL1, hQ1]) (by simp [roL]) (by simp) (by simp)) ?_
  refine ROutsP p s 1 lock L0 Q0 (by simp) hp hl hs hn.1 hpay hL8 hQ8 _ ?_
  rotate_left 1
  have hL1 : L0 = ([] ++ [] : List Outp) := by rw [← hL0, show out1 p s 1 lock = [] from if_neg c0, show out2 p s 1 = [] from if_neg c1]
  have hQ1 : Q0 = ([] ++ [] : List (Int × Int)) := by rw [← hQ0, show plc1 p s 1 = [] from if_neg c0, show plc2 p s 1 = [] from if_neg c1]
  simp [c0, PVv, SV, staC, I, Ptr, iC, lp, tp, e34, e35, e36, e37, w_0, w_1, wh, hl, hc_t32 hl, take33h, take32h, drop32h, drop33h, drop34h, take33l hl, drop34l hl, take34l hl, hz_len, frzAll_hc, lb, tkb, fb, lo]
  simp [c1, PVv, SV, staC, I, Ptr, iC, lp, tp, e34, e35, e36, e37, w_0, w_1, wh, hl, hc_t32 hl, take33h, take32h, drop32h, drop33h, drop34h, take33l hl, drop34l hl, take34l hl, hz_len, frzAll_hc]
  refine loopW _ (weak_nilR 14 148 2 rfl (by omega)) (loopW _ (weak_nilR 15 55 2 rfl (by omega)) ?_)
  refine loopW _ (weak_norm [0, 16, 512, 736, 737] (roT s p 1 lock L0 Q0 0) (roL s p 1 lock L0 Q0 0) (by simp [roT, Ptr, I, outP, plcP, hL1, hQ1]) (by simp [roL, outv, outF, brav, braF, ownB, paidB, waitV, fineB, keyO, intv, iF, plcv, plcF, outP, plcP, staC, hL1, hQ1]) (by simp [roL]) (by simp) (by simp)) ?_
  refine ROutsP p s 1 lock L0 Q0 (by simp) hp hl hs hn.1 hpay hL8 hQ8 _ ?_
  rotate_left 1
  all_goals
    intro n
    obtain ⟨Li, hLi⟩ : ∃ Li, L0 ++ outP p 1 lock s.pays = Li := ⟨_, rfl⟩
    obtain ⟨Qi, hQi⟩ : ∃ Qi, Q0 ++ plcP s.pays = Qi := ⟨_, rfl⟩
    have hlL : Li.length ≤ 20 := by rw [← hLi]; simp [outP]; omega
    have hlQ : Qi.length ≤ 20 := by rw [← hQi]; simp [plcP]; omega
    simp [roE, roL, hLi, hQi, Ptr, I, staC]
    refine loopW _ (weak_norm [1, 3, 4] (rhT s Li Qi 0) (rhL s Li Qi 0) (by simp [rhT, Ptr, I, outH, plcH]) (by simp [rhL, outH, plcH, staC]) (by simp [rhL]) (by simp) (by simp)) ?_
    refine ROutsH s Li Qi hs hn.2 hhol hlL hlQ _ ?_
    intro n
    have hL9 : outsB p s 1 lock = Li ++ outH s.holds := by rw [hvL, ← hLi, List.append_assoc]
    have hQ9 : plcB p s 1 = Qi ++ plcH s.holds := by rw [hvQ, ← hQi, List.append_assoc]
    obtain ⟨Lj, hLj⟩ : ∃ Lj, Li ++ outH s.holds = Lj := ⟨_, rfl⟩
    obtain ⟨Qj, hQj⟩ : ∃ Qj, Qi ++ plcH s.holds = Qj := ⟨_, rfl⟩
    rw [hL9, hQ9, hLj, hQj]
    simp [rhE, rhL, hLj, hQj, Ptr, I, staC]
    refine finW _ (weak_frz (o := 1) (ty := 148) (es := 2) (xs := outv Lj) rfl) ?_
    refine finW _ (weak_frz (o := 2) (ty := 55) (es := 2) (xs := plcv Qj) rfl) ?_
    refine fin [] (by decide) rfl rfl rfl ⟨rfl, ?_⟩
    simp [List.take_of_length_le]
end Go.Proofs.YtflcfdeanneoeaaGreatDoor
