import Derived.Test.YtddcceahaigodaaGreatDoorAll14
import Derived.Test.YtddcceahaigodaaGreatDoorAll8
import Derived.Test.YtddcceahaigodaaGreatDoorAll12
set_option maxHeartbeats 64000000
namespace Go.Proofs.YtddcceahaigodaaGreatDoor
open Go Go.EW
set_option linter.unusedSimpArgs false
set_option linter.unusedVariables false
def ybg9 : UB | _ => reg0 [xW 0 1 179 0, xQ 1 2 (.mov (.k xS)), xQ 2 3 (.mov (.k xS))] 3
def ybgb : UB | _ => reg0 [xQ 0 4 (.alloc 45 [xS])] 1
def ybgd : UB | _ => reg0 [xQ 0 5 (.alloc 176 [xS])] 1
def ybgf : UB | _ => reg0 [xQ 0 11 (.mkf 113 [.t 4, .t 1, .t 5]), xM 1 6 11] 2
def ylgg : UL | _ => [xF 6 18 43 1, xL 7 19 18, xO 8 20 (.call 114 [.t 15, .t 17, .t 19]), xO 9 21 (.clo (.t 12) [(xK 1), .t 13, .t 20, (.k (.func (.func 115) #[] #[]))])]
def ylgh : UL | _ => xM 0 12 6 :: xQ 1 13 (.build (([xZ, xZ, xZ, xZ] : List Value) ++ zU8) []) :: xF 2 14 0 1 :: xD 3 15 38 14 :: xF 4 16 38 1 :: xD 5 17 5 16 :: hid ylgg
def ylgi : UL | _ => [xF 6 28 43 1, xL 7 29 28, xQ 8 30 (.bin .sub (xK 1) (.t 29)), xO 9 31 (.call 114 [.t 25, .t 27, .t 30]), xO 10 32 (.clo (.t 22) [(xK 2), .t 23, .t 31, (.k (.func (.func 116) #[] #[]))])]
def ylgj : UL | _ => xM 0 22 6 :: xQ 1 23 (.build (([xZ, xZ, xZ, xZ] : List Value) ++ zU8) []) :: xF 2 24 0 1 :: xD 3 25 38 24 :: xF 4 26 38 1 :: xD 5 27 5 26 :: hid ylgi
def ybgl : UB | _ => reg0 [xF 0 33 38 1, xF 1 34 3 33, xL 2 35 34, xE 3 36 35, xC 4 37 0] 5
def ybgn : UB | _ => reg0 [xb 0 38 .lss 37 36] 1
def ylgo : UL | _ => [xI 0 39 36 35 37, xD 1 40 36 39, xQ 2 8 (.alloc 117 (([xZ, xZ, xZ, xZ] : List Value) ++ zU8)), xN 3 (.sto 36 (.t 8) (.t 40))]
def ybgp : UB | _ => reg0 (hid ylgo) 4
def ylgq : UL | _ => [xM 0 41 6, xD 1 42 36 8, xF 2 43 2 8, xL 3 44 43, xO 4 45 (.clo (.t 41) [(xK 3), .t 42, .t 44, (.k (.func (.func 117) #[] #[]))])]
def ybgr : UB | _ => reg0 (hid ylgq) 5
def ybgt : UB | _ => reg0 [xc 0 46 .add 37 1, xM 1 37 46] 2
def ybgv : UB | _ => reg0 [xF 0 47 38 1, xF 1 48 4 47, xL 2 49 48, xE 3 50 49, xC 4 51 0] 5
def ybgx : UB | _ => reg0 [xb 0 52 .lss 51 50] 1
def ylgy : UL | _ => [xI 0 53 3 49 51, xD 1 54 3 53, xQ 2 10 (.alloc 119 [xZ, xZ, xS]), xN 3 (.fz (.sto 3 (.t 10) (.t 54)))]
def ybgz : UB | _ => reg0 (hid ylgy) 4
def ylh0 : UL | _ => [xQ 6 61 (.build [xZ, xS] [(0, 1, .t 57), (1, 1, .t 60)]), ⟨7, (some 62), none, (.fz (.q (.bsl 2 [xZ, xS] 1 [(0, .t 61)]))), [0]⟩, xO 8 63 (.app 100 2 32 (.t 55) (.t 62)), xN 9 (.fz (.sto 1 (.t 4) (.t 63)))]
def ylh1 : UL | _ => xL 0 55 4 :: xF 1 56 1 10 :: xL 2 57 56 :: xF 3 58 2 10 :: xL 4 59 58 :: ⟨5, (some 60), none, (.call 26 [.t 59]), [0, 1, 2]⟩ :: hid ylh0
def ylh2 : UL | _ => [xN 6 (.fz (.sto 1 (.t 5) (.t 69)))]
def ylh3 : UL | _ => xL 0 64 5 :: xF 1 65 0 10 :: xL 2 66 65 :: xQ 3 67 (.build [xZ, xZ] [(0, 1, (xK 4)), (1, 1, .t 66)]) :: xQ 4 68 (.bsl 2 [xZ, xZ] 1 [(0, .t 67)]) :: xO 5 69 (.app 238 2 16 (.t 64) (.t 68)) :: hid ylh2
def ybh5 : UB | _ => reg0 [xc 0 70 .add 51 1, xM 1 51 70] 2
def ybh7 : UB | _ => reg0 [xL 0 71 4, xL 1 72 5, xM 2 2 71, xM 3 3 72] 4
attribute [simp] ybg9 ybgb ybgd ybgf ylgg ylgh ylgi ylgj ybgl ybgn ylgo ybgp ylgq ybgr ybgt ybgv ybgx ylgy ybgz ylh0 ylh1 ylh2 ylh3 ybh5 ybh7
def outP (p : Prm) (o : Int) (lock : List UInt8) (l : List Pay) : List Outp := l.map fun x => ⟨x.am, paidB p o lock x⟩
def plcP (l : List Pay) : List (Int × Int) := l.map fun x => (3, x.id)
def boL (p : Prm) (s : Sta) (o : Int) (lock : List UInt8) (L0 : List Outp) (Q0 : List (Int × Int)) (i : Nat) : List (Option EO) := [some (.box 179 (mkC p s o lock)), some (.box 45 [.row 3 (L0 ++ outP p o lock (s.pays.take i)).length]), some (.box 176 [.row 4 (Q0 ++ plcP (s.pays.take i)).length]), some (.row 100 2 (outv (L0 ++ outP p o lock (s.pays.take i)))), some (.row 238 2 (plcv (Q0 ++ plcP (s.pays.take i))))]
@[simp] theorem boL_len (p : Prm) (s : Sta) (o : Int) (lock : List UInt8) (L0 : List Outp) (Q0 : List (Int × Int)) (i : Nat) : (boL p s o lock L0 Q0 i).length = 5 := rfl
def ylh9 : UL | _ => [xG 6 13 10 true (.bin .leq (.t 11) (.t 12)), xR 7 14 10 13, xM 8 6 14]
def ylha : UL | _ => xM 0 7 0 :: xM 1 8 1 :: xb 2 9 .geq 7 8 :: xM 3 10 9 :: yM 4 11 10 true 0 :: yM 5 12 10 true 2 :: hid ylh9
def ybhb : UB | _ => .seq (reg0 [xQ 0 6 (.mov (.k (.bool false)))] 1) (.seq (reg0 (hid ylha) 9) .ret)
attribute [simp] ylh9 ylha ybhb
def c_within : EB × List QOp × Nat := ((hid ybhb), [(.mov (.t 6))], 15)
theorem k_within : cfun Tryz.prog 122 = some c_within := by kernel_rfl
def ylhd : UL | _ => [xM 24 2 26]
def ylhe : UL | _ => xM 18 21 20 :: yF 19 22 21 true 4 1 :: xG 20 23 21 true (.lda 32 (.t 22)) :: xG 21 24 21 true (.build zU8 []) :: xG 22 25 21 true (.eqa true 32 .u8 (.t 23) (.t 24)) :: xR 23 26 21 25 :: hid ylhd
def ylhf : UL | _ => xR 12 15 11 14 :: xM 13 16 15 :: yF 14 17 16 true 3 1 :: yL 15 18 16 true 17 :: ⟨16, (some 19), (some (16, true)), (.call 122 [.t 18, (xK 0), (xK 1099511627776)]), []⟩ :: xR 17 20 16 19 :: hid ylhe
def ylhg : UL | _ => ⟨6, (some 9), (some (6, true)), (.call 122 [.t 8, (xK 0), (xK 1)]), []⟩ :: xR 7 10 6 9 :: xM 8 11 10 :: yF 9 12 11 true 2 1 :: yL 10 13 11 true 12 :: ⟨11, (some 14), (some (11, true)), (.call 122 [.t 13, (xK 10), (xK 1125899906842624)]), []⟩ :: hid ylhf
def ylhh : UL | _ => xF 0 3 0 1 :: xL 1 4 3 :: xO 2 5 (.call 122 [.t 4, (xK 0), (xK 4294967296)]) :: xM 3 6 5 :: yF 4 7 6 true 1 1 :: yL 5 8 6 true 7 :: hid ylhg
def ybhi : UB | _ => .seq (reg0 [xW 0 1 118 0, xQ 1 2 (.mov (.k (.bool false)))] 2) (.seq (reg0 (hid ylhh) 25) .ret)
attribute [simp] ylhd ylhe ylhf ylhg ylhh ybhi
def c_RpayMay : EB × List QOp × Nat := ((hid ybhi), [(.mov (.t 2))], 27)
theorem k_RpayMay : cfun Tryz.prog 123 = some c_RpayMay := by kernel_rfl
def ylhm : UL | _ => [xP 24 35 18 34]
def ylhn : UL | _ => yL 18 29 21 true 28 :: yM 19 30 21 true 3 :: xG 20 31 21 true (.isl 1 (.t 29) (.t 30)) :: yL 21 32 21 true 31 :: xG 22 33 21 true (.bin .geq (.t 27) (.t 32)) :: xG 23 34 18 false (.pick (.t 21) (.t 33) (.k (.bool false))) :: hid ylhm
def ylho : UL | _ => yL 12 23 21 true 22 :: yM 13 24 21 true 3 :: xG 14 25 21 true (.bin .sub (.t 24) (xK 1)) :: xG 15 26 21 true (.isl 1 (.t 23) (.t 25)) :: yL 16 27 21 true 26 :: yF 17 28 21 true 2 1 :: hid ylhn
def ylhp : UL | _ => xQ 6 17 (.un .not (.t 16)) :: xM 7 18 17 :: yM 8 19 18 false 3 :: xG 9 20 18 false (.bin .gtr (.t 19) (xK 0)) :: yM 10 21 18 false 20 :: yF 11 22 21 true 2 1 :: hid ylho
def ylhq : UL | _ => xF 0 11 2 1 :: xL 1 12 11 :: xM 2 13 3 :: xI 3 14 1 12 13 :: xL 4 15 14 :: xO 5 16 (.call 122 [.t 15, (xK 0), (xK 15)]) :: hid ylhp
def ybhu : UB | _ => .seq (.seq (reg0 [xM 0 4 3, xF 1 5 2 1, xL 2 6 5, xE 3 7 6, xb 4 8 .lss 4 7] 5) (.cond (.t 8) .skip (.exit 0))) (.seq (.block 1 (.seq (reg0 (hid ylhq) 25) (.cond (.t 35) (.seq (reg0 [xQ 0 2 (.mov (.k (.bool false)))] 1) .ret) .skip))) (reg0 [xM 0 9 3, xc 1 10 .add 9 1, xM 2 3 10] 3))
def ylhw : UL | _ => [xG 12 48 44 true (.bin .gtr (.t 47) (xK 0)), xR 13 49 44 48, xM 14 2 49]
def ylhx : UL | _ => ⟨6, (some 42), (some (39, true)), (.call 122 [.t 41, (xK 10), (xK 1125899906842624)]), []⟩ :: xR 7 43 39 42 :: xM 8 44 43 :: yF 9 45 44 true 2 1 :: yL 10 46 44 true 45 :: xG 11 47 44 true (.len (.t 46)) :: hid ylhw
def ylhy : UL | _ => xF 0 36 0 1 :: xL 1 37 36 :: xO 2 38 (.call 122 [.t 37, (xK 0), (xK 4294967296)]) :: xM 3 39 38 :: yF 4 40 39 true 1 1 :: yL 5 41 39 true 40 :: hid ylhx
def ybhz : UB | _ => .seq (reg0 [xW 0 1 112 0, xQ 1 2 (.mov (.k (.bool false)))] 2) (.seq (.seq (reg0 [xC 0 3 0] 1) (.block 0 (.loop (hid ybhu)))) (.seq (reg0 (hid ylhy) 15) .ret))
attribute [simp] ylhm ylhn ylho ylhp ylhq ybhu ylhw ylhx ylhy ybhz
def c_RholdMay : EB × List QOp × Nat := ((hid ybhz), [(.mov (.t 2))], 50)
theorem k_RholdMay : cfun Tryz.prog 124 = some c_RholdMay := by kernel_rfl
def yli1 : UL | _ => [xG 36 41 35 false (.len (.t 40)), xG 37 42 35 false (.bin .add (.t 38) (.t 41)), xG 38 43 35 false (.bin .gtr (.t 42) (xK 8)), xP 39 44 35 43]
def yli2 : UL | _ => xM 30 35 34 :: yF 31 36 35 false 3 1 :: yL 32 37 35 false 36 :: xG 33 38 35 false (.len (.t 37)) :: yF 34 39 35 false 4 1 :: yL 35 40 35 false 39 :: hid yli1
def yli3 : UL | _ => xM 24 29 28 :: yF 25 30 29 false 4 1 :: yL 26 31 29 false 30 :: xG 27 32 29 false (.len (.t 31)) :: xG 28 33 29 false (.bin .gtr (.t 32) (xK 8)) :: xP 29 34 29 33 :: hid yli2
def yli4 : UL | _ => xM 18 23 22 :: yF 19 24 23 false 3 1 :: yL 20 25 23 false 24 :: xG 21 26 23 false (.len (.t 25)) :: xG 22 27 23 false (.bin .gtr (.t 26) (xK 8)) :: xP 23 28 23 27 :: hid yli3
def yli5 : UL | _ => yF 12 17 16 false 1 1 :: xG 13 18 16 false (.iad 2 1 (.t 17) (xK 1)) :: yL 14 19 16 false 18 :: ⟨15, (some 20), (some (16, false)), (.call 122 [.t 19, (xK 0), (xK 1125899906842624)]), []⟩ :: xG 16 21 16 false (.un .not (.t 20)) :: xP 17 22 16 21 :: hid yli4
def yli6 : UL | _ => xG 6 11 9 false (.iad 2 1 (.t 10) (xK 0)) :: yL 7 12 9 false 11 :: ⟨8, (some 13), (some (9, false)), (.call 122 [.t 12, (xK 0), (xK 1125899906842624)]), []⟩ :: xG 9 14 9 false (.un .not (.t 13)) :: xP 10 15 9 14 :: xM 11 16 15 :: hid yli5
def yli7 : UL | _ => xF 0 5 0 1 :: xL 1 6 5 :: xO 2 7 (.call 122 [.t 6, (xK 0), (xK 1099511627776)]) :: xQ 3 8 (.un .not (.t 7)) :: xM 4 9 8 :: yF 5 10 9 false 1 1 :: hid yli6
def ylib : UL | _ => [xM 0 45 3, xF 1 46 3 1, xL 2 47 46, xE 3 48 47, xb 4 49 .lss 45 48]
def ylic : UL | _ => [xG 24 76 62 true (.bin .leq (.t 68) (.t 75)), xG 25 77 59 false (.pick (.t 62) (.t 76) (.k (.bool false))), xP 26 78 59 77]
def ylid : UL | _ => yL 18 70 62 true 69 :: yM 19 71 62 true 3 :: xG 20 72 62 true (.bin .sub (.t 71) (xK 1)) :: xG 21 73 62 true (.isl 36 (.t 70) (.t 72)) :: yF 22 74 62 true 0 73 :: yL 23 75 62 true 74 :: hid ylic
def ylie : UL | _ => yL 12 64 62 true 63 :: yM 13 65 62 true 3 :: xG 14 66 62 true (.isl 36 (.t 64) (.t 65)) :: yF 15 67 62 true 0 66 :: yL 16 68 62 true 67 :: yF 17 69 62 true 3 1 :: hid ylid
def ylif : UL | _ => xQ 6 58 (.un .not (.t 57)) :: xM 7 59 58 :: yM 8 60 59 false 3 :: xG 9 61 59 false (.bin .gtr (.t 60) (xK 0)) :: yM 10 62 59 false 61 :: yF 11 63 62 true 3 1 :: hid ylie
def ylig : UL | _ => xF 0 52 3 1 :: xL 1 53 52 :: xM 2 54 3 :: xI 3 55 36 53 54 :: xD 4 56 36 55 :: xO 5 57 (.call 123 [.t 56]) :: hid ylif
def ylim : UL | _ => [xM 0 79 4, xF 1 80 4 1, xL 2 81 80, xE 3 82 81, xb 4 83 .lss 79 82]
def ylin : UL | _ => [xG 24 110 96 true (.bin .leq (.t 102) (.t 109)), xG 25 111 93 false (.pick (.t 96) (.t 110) (.k (.bool false))), xP 26 112 93 111]
def ylio : UL | _ => yL 18 104 96 true 103 :: yM 19 105 96 true 4 :: xG 20 106 96 true (.bin .sub (.t 105) (xK 1)) :: xG 21 107 96 true (.isl 3 (.t 104) (.t 106)) :: yF 22 108 96 true 0 107 :: yL 23 109 96 true 108 :: hid ylin
def ylip : UL | _ => yL 12 98 96 true 97 :: yM 13 99 96 true 4 :: xG 14 100 96 true (.isl 3 (.t 98) (.t 99)) :: yF 15 101 96 true 0 100 :: yL 16 102 96 true 101 :: yF 17 103 96 true 4 1 :: hid ylio
def yliq : UL | _ => xQ 6 92 (.un .not (.t 91)) :: xM 7 93 92 :: yM 8 94 93 false 4 :: xG 9 95 93 false (.bin .gtr (.t 94) (xK 0)) :: yM 10 96 93 false 95 :: yF 11 97 96 true 4 1 :: hid ylip
def ylir : UL | _ => xF 0 86 4 1 :: xL 1 87 86 :: xM 2 88 4 :: xI 3 89 3 87 88 :: xD 4 90 3 89 :: xO 5 91 (.call 124 [.t 90]) :: hid yliq
def ybiv : UB | _ => .seq (.seq (reg0 (hid ylim) 5) (.cond (.t 83) .skip (.exit 2))) (.seq (.block 3 (.seq (reg0 (hid ylir) 27) (.cond (.t 112) (.seq (reg0 [xC 0 2 1] 1) .ret) .skip))) (reg0 [xM 0 84 4, xc 1 85 .add 84 1, xM 2 4 85] 3))
def yliw : UL | _ => [xD 0 113 5 1, xO 1 114 (.call 125 [.t 113]), xc 2 115 .gtr 114 1125899906842624]
def ybj0 : UB | _ => .seq (.seq (reg0 [xC 0 4 0] 1) (.block 2 (.loop (hid ybiv)))) (.seq (.seq (reg0 (hid yliw) 3) (.cond (.t 115) (.seq (reg0 [xC 0 2 1] 1) .ret) .skip)) (.seq (reg0 [xC 0 2 0] 1) .ret))
def ybj1 : UB | _ => .seq (.seq (reg0 [xC 0 3 0] 1) (.block 0 (.loop (.seq (.seq (reg0 (hid ylib) 5) (.cond (.t 49) .skip (.exit 0))) (.seq (.block 1 (.seq (reg0 (hid ylig) 27) (.cond (.t 78) (.seq (reg0 [xC 0 2 1] 1) .ret) .skip))) (reg0 [xM 0 50 3, xc 1 51 .add 50 1, xM 2 3 51] 3)))))) (hid ybj0)
def ybj2 : UB | _ => .seq (reg0 [xW 0 1 32 0, xC 1 2 0] 2) (.seq (.seq (reg0 (hid yli7) 40) (.cond (.t 44) (.seq (reg0 [xC 0 2 1] 1) .ret) .skip)) (hid ybj1))
attribute [simp] yli1 yli2 yli3 yli4 yli5 yli6 yli7 ylib ylic ylid ylie ylif ylig ylim ylin ylio ylip yliq ylir ybiv yliw ybj0 ybj1 ybj2
def c_RCheck : EB × List QOp × Nat := ((hid ybj2), [(.mov (.t 2))], 116)
theorem k_RCheck : cfun Tryz.prog 75 = some c_RCheck := by kernel_rfl
def ylj4 : UL | _ => [xb 6 12 .add 8 11, xM 7 3 12]
def ylj5 : UL | _ => xF 0 6 1 1 :: xQ 1 7 (.iad 2 1 (.t 6) (xK 0)) :: xL 2 8 7 :: xF 3 9 1 1 :: xQ 4 10 (.iad 2 1 (.t 9) (xK 1)) :: xL 5 11 10 :: hid ylj4
def ylj7 : UL | _ => [xM 0 13 4, xF 1 14 3 1, xL 2 15 14, xE 3 16 15, xb 4 17 .lss 13 16]
def ylj8 : UL | _ => [xL 6 26 25, xb 7 27 .add 20 26, xM 8 3 27]
def ylj9 : UL | _ => xM 0 20 3 :: xF 1 21 3 1 :: xL 2 22 21 :: xM 3 23 4 :: xI 4 24 36 22 23 :: xF 5 25 2 24 :: hid ylj8
def yljd : UL | _ => [xM 0 28 5, xF 1 29 4 1, xL 2 30 29, xE 3 31 30, xb 4 32 .lss 28 31]
def ylje : UL | _ => [xL 6 41 40, xb 7 42 .add 35 41, xM 8 3 42]
def yljf : UL | _ => xM 0 35 3 :: xF 1 36 4 1 :: xL 2 37 36 :: xM 3 38 5 :: xI 4 39 3 37 38 :: xF 5 40 1 39 :: hid ylje
def ybjj : UB | _ => .seq (.seq (reg0 [xC 0 5 0] 1) (.block 2 (.loop (.seq (.seq (reg0 (hid yljd) 5) (.cond (.t 32) .skip (.exit 2))) (.seq (.block 3 (reg0 (hid yljf) 9)) (reg0 [xM 0 33 5, xc 1 34 .add 33 1, xM 2 5 34] 3)))))) (.seq (reg0 [xM 0 43 3, xM 1 2 43] 2) .ret)
def ybjk : UB | _ => .seq (.seq (reg0 [xC 0 4 0] 1) (.block 0 (.loop (.seq (.seq (reg0 (hid ylj7) 5) (.cond (.t 17) .skip (.exit 0))) (.seq (.block 1 (reg0 (hid ylj9) 9)) (reg0 [xM 0 18 4, xc 1 19 .add 18 1, xM 2 4 19] 3)))))) (hid ybjj)
def ybjl : UB | _ => .seq (reg0 [xW 0 1 32 0, xC 1 2 0] 2) (.seq (reg0 (hid ylj5) 8) (hid ybjk))
attribute [simp] ylj4 ylj5 ylj7 ylj8 ylj9 yljd ylje yljf ybjj ybjk ybjl
def c_Rsum : EB × List QOp × Nat := ((hid ybjl), [(.mov (.t 2))], 44)
theorem k_Rsum : cfun Tryz.prog 125 = some c_Rsum := by kernel_rfl
def ybjr : UB | _ => .seq (reg0 [xW 0 1 32 0, xC 1 2 0] 2) (.seq (.seq (reg0 [xD 0 3 5 1, xO 1 4 (.call 75 [.t 3]), xc 2 5 .neq 4 0] 3) (.cond (.t 5) (.seq (reg0 [xC 0 2 0] 1) .ret) .skip)) (.seq (reg0 [xD 0 6 5 1, xO 1 7 (.call 125 [.t 6]), xM 2 2 7] 3) .ret))
attribute [simp] ybjr
def c_RTotal : EB × List QOp × Nat := ((hid ybjr), [(.mov (.t 2))], 8)
theorem k_RTotal : cfun Tryz.prog 77 = some c_RTotal := by kernel_rfl
theorem within_ok (n lo hi : Int) : ECalls Tryz.prog 122 [I .i64 n, I .i64 lo, I .i64 hi] [] fun y H' => H' = [] ∧ y = .lit (.bool (decide (lo ≤ n ∧ n ≤ hi))) := by
 refine ecalls k_within ?_
 simp [c_within, I]
 by_cases h : lo ≤ n
 ·simp [h]
  exact fin0
 ·simp [h]
  exact fin0
theorem RpayMay_ok (p : Pay) (hp : p.lock.length = 32) : ECalls Tryz.prog 123 [.v (.agg (payC p))] [] fun y H' => H' = [] ∧ y = .lit (.bool (mayP p)) := by
 have ht : p.lock.take 32 = p.lock := List.tkL (by omega)
 refine ecalls k_RpayMay ?_
 simp [c_RpayMay, payC, I, ht]
 refine call0 (within_ok p.id 0 4294967296) (by simp [Ptr, I, EV.lit]) ?_
 rintro y H' ⟨rfl, rfl⟩
 cases h1 : decide (0 ≤ p.id ∧ p.id ≤ 4294967296)
 ·have h1 := of_decide_eq_false h1
  simp [Ptr, I, EV.lit]
  exact fin [] (by decide) rfl rfl rfl ⟨rfl, by rw [show mayP p = false from decide_eq_false (by omega)]⟩
 have h1 := of_decide_eq_true h1
 simp [Ptr, I, EV.lit]
 refine call0 (within_ok p.fr 0 1) (by simp [Ptr, I, EV.lit]) ?_
 rintro y H' ⟨rfl, rfl⟩
 cases h2 : decide (0 ≤ p.fr ∧ p.fr ≤ 1)
 ·have h2 := of_decide_eq_false h2
  simp [Ptr, I, EV.lit]
  exact fin [] (by decide) rfl rfl rfl ⟨rfl, by rw [show mayP p = false from decide_eq_false (by omega)]⟩
 have h2 := of_decide_eq_true h2
 simp [Ptr, I, EV.lit]
 refine call0 (within_ok p.am 10 1125899906842624) (by simp [Ptr, I, EV.lit]) ?_
 rintro y H' ⟨rfl, rfl⟩
 cases h3 : decide (10 ≤ p.am ∧ p.am ≤ 1125899906842624)
 ·have h3 := of_decide_eq_false h3
  simp [Ptr, I, EV.lit]
  exact fin [] (by decide) rfl rfl rfl ⟨rfl, by rw [show mayP p = false from decide_eq_false (by omega)]⟩
 have h3 := of_decide_eq_true h3
 simp [Ptr, I, EV.lit]
 refine call0 (within_ok p.af 0 1099511627776) (by simp [I]) ?_
 rintro y H' ⟨rfl, rfl⟩
 cases h4 : decide (0 ≤ p.af ∧ p.af ≤ 1099511627776)
 ·have h4 := of_decide_eq_false h4
  simp [EV.lit]
  exact fin [] (by decide) rfl rfl rfl ⟨rfl, by rw [show mayP p = false from decide_eq_false (by omega)]⟩
 have h4 := of_decide_eq_true h4
 simp [EV.lit, hp, ht]
 have hm : mayP p = !decide (p.lock = hz) := by
  by_cases e : p.lock = hz
  ·rw [show mayP p = false from decide_eq_false (fun h => h.2.2.2.2.2.2.2 e)]; simp [e]
  ·rw [show mayP p = true from decide_eq_true ⟨by omega, by omega, by omega, by omega, by omega, by omega, by omega, e⟩]; simp [e]
 exact fin [] (by decide) rfl rfl rfl ⟨rfl, by rw [hm]⟩
def prevK (l : List Int) (i : Nat) : Int := if i = 0 then -1 else (l[i - 1]?).getD 0
theorem RholdMay_ok (h : Hol) (hk : h.keys.length ≤ 100000000) : ECalls Tryz.prog 124 [.v (.agg (holC h))] [] fun y H' => H' = [] ∧ y = .lit (.bool (mayH h)) := by
 refine ecalls k_RholdMay ?_
 simp [c_RholdMay, holC]
 refine eloop (α := Nat) (fun i => i ≤ h.keys.length ∧ keysS (-1) h.keys = keysS (prevK h.keys i) (h.keys.drop i) ∧ -1 ≤ prevK h.keys i) (fun i => h.keys.length - i)
  (fun i => [xA, Ptr 0, xA, I .i64 i, xA, xA, xA, xA, xA, xA, xA, xA, xA, xA, xA, xA, xA, xA, xA, xA, xA, xA, xA, xA, xA, xA, xA, xA, xA, xA, xA, xA, xA, xA, xA, xA, xA, xA, xA, xA, xA, xA, xA, xA, xA, xA, xA, xA, xA, .any]) (fun i => [some (.box 112 (holC h))]) 0 [0]
  ⟨by simp, by simp [prevK], by simp [prevK]⟩ (by simp [Ptr, I]) (by simp [holC]) (by simp) (by simp) (by simp) ?_
 rintro i ⟨hi1, hi2, hi3⟩
 simp [Ptr, I, holC] at hi1 hi2 hi3 ⊢
 refine alt (fun hlt => ?_) (fun hlt => ?_)
 ·obtain ⟨k, hc⟩ : ∃ k, h.keys[i]? = some k := ⟨h.keys[i], by simp [hlt]⟩
  have hcb := intv_get hc
  rw [drop_cons hc] at hi2
  have w1 := wS (i := i) (by omega)
  have w3 : IntKind.i64.wrap ((i : Int) - 1) = (i : Int) - 1 := wrap_i64 (by omega) (by omega)
  have hbad : ¬ (prevK h.keys i < k ∧ k < 16) → mayH h = false := fun q => by simp only [mayH, hi2, keysS, decide_eq_false q, Bool.false_and]
  have hnk : prevK h.keys (i + 1) = k := by simp [prevK, hc]
  have hgood : prevK h.keys i < k → k < 16 → keysS (-1) h.keys = keysS (prevK h.keys (i + 1)) (h.keys.drop (i + 1)) := fun q1 q2 => by rw [hi2, keysS, decide_eq_true ⟨q1, q2⟩, Bool.true_and, hnk]
  simp [hcb]
  refine call0 (within_ok k 0 15) (by simp [I]) ?_
  rintro y H' ⟨rfl, rfl⟩
  cases b1 : decide (0 ≤ k ∧ k ≤ 15)
  ·have b1 := of_decide_eq_false b1
   simp [EV.lit]
   exact fin [] (by decide) rfl rfl rfl ⟨rfl, by rw [hbad (by omega)]⟩
  have b1 := of_decide_eq_true b1
  simp [EV.lit]
  refine alt (fun h0 => ?_) (fun h0 => ?_)
  ·obtain ⟨q, hq⟩ : ∃ q, h.keys[i - 1]? = some q := ⟨h.keys[i - 1]'(by omega), by simp⟩
   have hqb := intv_get hq
   have hti : ((i : Int) - 1).toNat = i - 1 := by omega
   have hpv : prevK h.keys i = q := by simp [prevK, hq, show i ≠ 0 by omega]
   have h1 : (1 : Int) ≤ (i : Int) := by omega
   simp [h0, w3, hqb, hti, h1, hcb]
   refine alt (fun c1 => ?_) (fun c1 => ?_)
   ·simp
    exact fin [] (by decide) rfl rfl rfl ⟨rfl, by rw [hbad (by omega)]⟩
   simp [w1, -Int.natCast_add]
   exact round (i + 1) [0] ⟨by omega, hgood (by omega) (by omega), by omega⟩ (by omega) (by simp) (by simp) (by simp) (by simp) (by simp)
  ·have hi0 : i = 0 := by omega
   subst hi0
   have hp0 : prevK h.keys 0 = -1 := by simp [prevK]
   simp [IntKind.wrap_i64]
   exact round 1 [0] ⟨by omega, hgood (by omega) (by omega), by simp at hnk; omega⟩ (by omega) (by simp) (by simp) (by simp) (by simp) (by simp)
 ·have hd : h.keys.drop i = [] := by rw [List.drop_eq_nil_iff]; omega
  have hks : keysS (-1) h.keys = true := by rw [hi2, hd]; rfl
  simp
  refine call0 (within_ok h.id 0 4294967296) (by simp [Ptr, I, EV.lit]) ?_
  rintro y H' ⟨rfl, rfl⟩
  cases c1 : decide (0 ≤ h.id ∧ h.id ≤ 4294967296)
  ·have c1 := of_decide_eq_false c1
   simp [Ptr, I, EV.lit]
   exact fin [] (by decide) rfl rfl rfl ⟨rfl, by rw [mayH_f (by omega)]⟩
  have c1 := of_decide_eq_true c1
  simp [Ptr, I, EV.lit]
  refine call0 (within_ok h.am 10 1125899906842624) (by simp [Ptr, I, EV.lit]) ?_
  rintro y H' ⟨rfl, rfl⟩
  cases c2 : decide (10 ≤ h.am ∧ h.am ≤ 1125899906842624)
  ·have c2 := of_decide_eq_false c2
   simp [Ptr, I, EV.lit]
   exact fin [] (by decide) rfl rfl rfl ⟨rfl, by rw [mayH_f (by omega)]⟩
  have c2 := of_decide_eq_true c2
  simp [Ptr, I, EV.lit]
  by_cases q : 1 ≤ h.keys.length
  ·have hm : mayH h = true := by
    simp only [mayH, hks, Bool.true_and]
    exact decide_eq_true ⟨by omega, by omega, by omega, by omega, q⟩
   exact fin [] (by decide) rfl rfl rfl ⟨rfl, litB (by rw [hm]; exact decide_eq_true (by omega))⟩
  ·exact fin [] (by decide) rfl rfl rfl ⟨rfl, litB (by rw [mayH_f (by omega)]; exact decide_eq_false (by omega))⟩
theorem Rsum_ok (s : Sta) (hs : s.ok) (hr : 0 ≤ s.h0 ∧ s.h0 ≤ 1125899906842624 ∧ 0 ≤ s.h1 ∧ s.h1 ≤ 1125899906842624 ∧ s.pays.length ≤ 8 ∧ s.holds.length + s.pays.length ≤ 8) (hp : payL none s.pays = true) (hh : holL none s.holds = true) : ECalls Tryz.prog 125 [SV s] [] fun y H' => H' = [] ∧ y = I .i64 (total s) := by
 obtain ⟨ok1, ok2, ok3, ok4, ok5, ok6, ok7⟩ := id hs
 have w1 : IntKind.i64.wrap (s.h0 + s.h1) = s.h0 + s.h1 := wrap_i64 (by omega) (by omega)
 refine ecalls k_Rsum ?_
 simp [c_Rsum, SV, staC, w1]
 refine eloop (α := Nat × Int) (fun a => a.1 ≤ s.pays.length ∧ a.2 = s.h0 + s.h1 + sumP (s.pays.take a.1) ∧ 0 ≤ a.2 ∧ a.2 ≤ 2251799813685248 + (a.1 : Int) * 1125899906842624) (fun a => s.pays.length - a.1)
  (fun a => [xA, Ptr 0, xA, I .i64 a.2, I .i64 a.1, xA, xA, xA, xA, xA, xA, xA, xA, xA, xA, xA, xA, xA, xA, xA, xA, xA, xA, xA, xA, xA, xA, xA, xA, xA, xA, xA, xA, xA, xA, xA, xA, xA, xA, xA, xA, xA, xA, .any]) (fun a => [some (.box 32 (staC s))]) (0, s.h0 + s.h1) [0]
  ⟨by simp, by simp [sumP], by simp; omega, by simp; omega⟩ (by simp [Ptr, I, PL]) (by simp [staC]) (by simp) (by simp) (by simp) ?_
 rintro ⟨i, n⟩ ⟨hi1, hi3, hi4, hi5⟩
 simp [Ptr, I, PL, staC] at hi1 hi3 hi4 hi5 ⊢
 refine alt (fun hlt => ?_) (fun hlt => ?_)
 ·obtain ⟨p, hc⟩ : ∃ p, s.pays[i]? = some p := ⟨s.pays[i], by simp [hlt]⟩
  have hcb := payv_get hc
  have ham := payL_am hp p (List.mgE hc)
  have w2 := wS (i := i) (by omega)
  have w4 : IntKind.i64.wrap (n + p.am) = n + p.am := wrap_i64 (by omega) (by omega)
  simp [hcb, payF, w2, w4, -Int.natCast_add]
  exact round (i + 1, n + p.am) [0] ⟨by omega, by rw [take_s hc, sumP_snoc]; omega, by simp; omega, by simp; omega⟩ (by simp; omega) (by simp) (by simp) (by simp) (by simp) (by simp)
 have hil : i = s.pays.length := by omega
 subst hil
 rw [List.take_length] at hi3
 simp
 refine eloop (α := Nat × Int) (fun a => a.1 ≤ s.holds.length ∧ a.2 = s.h0 + s.h1 + sumP s.pays + sumH (s.holds.take a.1) ∧ 0 ≤ a.2 ∧ a.2 ≤ 22517998136852480 + (a.1 : Int) * 1125899906842624) (fun a => s.holds.length - a.1)
  (fun a => [xA, Ptr 0, xA, I .i64 a.2, xA, I .i64 a.1, xA, xA, xA, xA, xA, xA, xA, xA, xA, xA, xA, xA, xA, xA, xA, xA, xA, xA, xA, xA, xA, xA, xA, xA, xA, xA, xA, xA, xA, xA, xA, xA, xA, xA, xA, xA, xA, .any]) (fun a => [some (.box 32 (staC s))]) (0, n) [0]
  ⟨by simp, by simp [sumH]; omega, hi4, by simp; omega⟩ (by simp [Ptr, I, HL]) (by simp [staC]) (by simp) (by simp) (by simp) ?_
 clear hi1 hi3 hi4 hi5 hlt
 clear n
 rintro ⟨i, n⟩ ⟨hi1, hi3, hi4, hi5⟩
 simp [Ptr, I, HL, staC] at hi1 hi3 hi4 hi5 ⊢
 refine alt (fun hlt => ?_) (fun hlt => ?_)
 ·obtain ⟨p, hc⟩ : ∃ p, s.holds[i]? = some p := ⟨s.holds[i], by simp [hlt]⟩
  have hcb := holv_get hc
  have ham := holL_am hh p (List.mgE hc)
  have w2 := wS (i := i) (by omega)
  have w4 : IntKind.i64.wrap (n + p.am) = n + p.am := wrap_i64 (by omega) (by omega)
  simp [hcb, holF, w2, w4, -Int.natCast_add]
  exact round (i + 1, n + p.am) [0] ⟨by omega, by rw [take_s hc, sumH_snoc]; omega, by simp; omega, by simp; omega⟩ (by simp; omega) (by simp) (by simp) (by simp) (by simp) (by simp)
 have hil : i = s.holds.length := by omega
 subst hil
 rw [List.take_length] at hi3
 simp
 exact fin [] (by decide) rfl rfl rfl ⟨rfl, by rw [hi3]; rfl⟩
def chkS (s : Sta) : Int := if mayS s = true then 0 else 1
theorem chk_f {s : Sta} (h : mayS s = false) : chkS s = 1 := by simp [chkS, h]
theorem RCheck_ok (s : Sta) (hs : s.ok) : ECalls Tryz.prog 75 [SV s] [] fun y H' => H' = [] ∧ y = I .i64 (chkS s) := by
 obtain ⟨ok1, ok2, ok3, ok4, ok5, ok6, ok7⟩ := id hs
 refine ecalls k_RCheck ?_
 simp [c_RCheck, SV, staC]
 refine call0 (within_ok s.num 0 1099511627776) (by simp [Ptr, I, EV.lit]) ?_
 rintro y H' ⟨rfl, rfl⟩
 cases a1 : decide (0 ≤ s.num ∧ s.num ≤ 1099511627776)
 ·have a1 := of_decide_eq_false a1
  simp [Ptr, I, EV.lit]
  exact fin [] (by decide) rfl rfl rfl ⟨rfl, by rw [chk_f (mayS_f (by omega))]⟩
 have a1 := of_decide_eq_true a1
 simp [Ptr, I, EV.lit]
 refine call0 (within_ok s.h0 0 1125899906842624) (by simp [Ptr, I, EV.lit]) ?_
 rintro y H' ⟨rfl, rfl⟩
 cases a2 : decide (0 ≤ s.h0 ∧ s.h0 ≤ 1125899906842624)
 ·have a2 := of_decide_eq_false a2
  simp [Ptr, I, EV.lit]
  exact fin [] (by decide) rfl rfl rfl ⟨rfl, by rw [chk_f (mayS_f (by omega))]⟩
 have a2 := of_decide_eq_true a2
 simp [Ptr, I, EV.lit]
 refine call0 (within_ok s.h1 0 1125899906842624) (by simp [Ptr, I, EV.lit]) ?_
 rintro y H' ⟨rfl, rfl⟩
 cases a3 : decide (0 ≤ s.h1 ∧ s.h1 ≤ 1125899906842624)
 ·have a3 := of_decide_eq_false a3
  simp [Ptr, I, EV.lit]
  exact fin [] (by decide) rfl rfl rfl ⟨rfl, by rw [chk_f (mayS_f (by omega))]⟩
 have a3 := of_decide_eq_true a3
 simp [Ptr, I, EV.lit]
 refine alt (fun a4 => ?_) (fun a4 => ?_)
 rotate_left
 ·(first | simp [Ptr, I, EV.lit, a4, Int.not_le.2 a4] | simp [Ptr, I, EV.lit, a4, Int.not_lt.2 a4] | simp [Ptr, I, EV.lit, a4, Int.not_lt.1 a4] | simp [Ptr, I, EV.lit, a4, Int.not_le.1 a4] | simp [Ptr, I, EV.lit, a4])
  exact fin [] (by decide) rfl rfl rfl ⟨rfl, by rw [chk_f (mayS_f (by omega))]⟩
 (first | simp [Ptr, I, EV.lit, a4, Int.not_le.2 a4] | simp [Ptr, I, EV.lit, a4, Int.not_lt.2 a4] | simp [Ptr, I, EV.lit, a4, Int.not_lt.1 a4] | simp [Ptr, I, EV.lit, a4, Int.not_le.1 a4] | simp [Ptr, I, EV.lit, a4])
 refine alt (fun a5 => ?_) (fun a5 => ?_)
 rotate_left
 ·(first | simp [Ptr, I, EV.lit, a5, Int.not_le.2 a5] | simp [Ptr, I, EV.lit, a5, Int.not_lt.2 a5] | simp [Ptr, I, EV.lit, a5, Int.not_lt.1 a5] | simp [Ptr, I, EV.lit, a5, Int.not_le.1 a5] | simp [Ptr, I, EV.lit, a5])
  exact fin [] (by decide) rfl rfl rfl ⟨rfl, by rw [chk_f (mayS_f (by omega))]⟩
 (first | simp [Ptr, I, EV.lit, a5, Int.not_le.2 a5] | simp [Ptr, I, EV.lit, a5, Int.not_lt.2 a5] | simp [Ptr, I, EV.lit, a5, Int.not_lt.1 a5] | simp [Ptr, I, EV.lit, a5, Int.not_le.1 a5] | simp [Ptr, I, EV.lit, a5])
 have w0 : IntKind.i64.wrap ((s.pays.length : Int) + (s.holds.length : Int)) = (s.pays.length : Int) + (s.holds.length : Int) := wrap_i64 (by omega) (by omega)
 rw [w0]
 refine alt (fun a6 => ?_) (fun a6 => ?_)
 ·simp
  exact fin [] (by decide) rfl rfl rfl ⟨rfl, by rw [chk_f (mayS_f (by omega))]⟩
 simp
 refine eloop (α := Nat) (fun i => i ≤ s.pays.length ∧ payL none s.pays = payL (prevP s.pays i) (s.pays.drop i)) (fun i => s.pays.length - i)
  (fun i => [xA, Ptr 0, xA, I .i64 i, xA, xA, xA, xA, xA, xA, xA, xA, xA, xA, xA, xA, xA, xA, xA, xA, xA, xA, xA, xA, xA, xA, xA, xA, xA, xA, xA, xA, xA, xA, xA, xA, xA, xA, xA, xA, xA, xA, xA, xA, xA, xA, xA, xA, xA, xA, xA, xA, xA, xA, xA, xA, xA, xA, xA, xA, xA, xA, xA, xA, xA, xA, xA, xA, xA, xA, xA, xA, xA, xA, xA, xA, xA, xA, xA, xA, xA, xA, xA, xA, xA, xA, xA, xA, xA, xA, xA, xA, xA, xA, xA, xA, xA, xA, xA, xA, xA, xA, xA, xA, xA, xA, xA, xA, xA, xA, xA, xA, xA, xA, xA, .any]) (fun i => [some (.box 32 (staC s))]) 0 [0]
  ⟨by simp, by simp [prevP]⟩ (by simp [Ptr, I]) (by simp [staC]) (by simp) (by simp) (by simp) ?_
 rintro i ⟨hi1, hi2⟩
 simp [Ptr, I, PL, staC] at hi1 hi2 ⊢
 refine alt (fun hlt => ?_) (fun hlt => ?_)
 ·obtain ⟨p, hc⟩ : ∃ p, s.pays[i]? = some p := ⟨s.pays[i], by simp [hlt]⟩
  have hpo := ok4 p (List.mgE hc)
  have hl32 := hpo.2.2.2.2
  have ht : p.lock.take 32 = p.lock := List.tkL (by omega)
  have hcb := payv_get hc
  rw [drop_cons hc] at hi2
  have w2 := wS (i := i) (by omega)
  have w3 : IntKind.i64.wrap ((i : Int) - 1) = (i : Int) - 1 := wrap_i64 (by omega) (by omega)
  simp [hcb, payF, hl32, ht]
  refine call0 (RpayMay_ok p hl32) (by simp [payC]) ?_
  rintro y H' ⟨rfl, rfl⟩
  refine ⟨.inl (by simp), le_ok rfl, ?_⟩
  cases hm : mayP p
  ·simp [EV.lit]
   exact fin [] (by decide) rfl rfl rfl ⟨rfl, by rw [chk_f (mayS_p (by rw [hi2, payL, hm]; simp))]⟩
  have hnx : ∀ (q : aft (prevP s.pays i) p.id = true), payL none s.pays = payL (prevP s.pays (i + 1)) (s.pays.drop (i + 1)) := by
   intro q
   rw [hi2, payL, hm, q]
   simp [prevP, hc]
  simp [EV.lit]
  refine alt (fun h0 => ?_) (fun h0 => ?_)
  ·obtain ⟨q, hq⟩ : ∃ q, s.pays[i - 1]? = some q := ⟨s.pays[i - 1]'(by omega), by simp⟩
   have hqb := payv_get hq
   have hti : ((i : Int) - 1).toNat = i - 1 := by omega
   have hpv : prevP s.pays i = some q.id := by simp [prevP, hq, show i ≠ 0 by omega]
   have h1 : (1 : Int) ≤ (i : Int) := by omega
   simp [h0, w3, hqb, hti, payF, h1, hcb]
   refine alt (fun c1 => ?_) (fun c1 => ?_)
   ·simp
    exact fin [] (by decide) rfl rfl rfl ⟨rfl, by rw [chk_f (mayS_p (by rw [hi2, payL, hm, hpv]; simp [aft, decide_eq_false (show ¬ q.id < p.id by omega)]))]⟩
   simp [w2, -Int.natCast_add]
   exact round (i + 1) [0] ⟨by omega, hnx (by rw [hpv]; exact decide_eq_true (by omega))⟩ (by omega) (by simp) (by simp) (by simp) (by simp) (by simp)
  ·have hi0 : i = 0 := by omega
   subst hi0
   simp [IntKind.wrap_i64]
   exact round 1 [0] ⟨by omega, hnx (by simp [prevP, aft])⟩ (by omega) (by simp) (by simp) (by simp) (by simp) (by simp)
 have hil : i = s.pays.length := by omega
 subst hil
 have hps : payL none s.pays = true := by rw [hi2]; simp [payL]
 simp
 refine eloop (α := Nat) (fun i => i ≤ s.holds.length ∧ holL none s.holds = holL (prevH s.holds i) (s.holds.drop i)) (fun i => s.holds.length - i)
  (fun i => [xA, Ptr 0, xA, xA, I .i64 i, xA, xA, xA, xA, xA, xA, xA, xA, xA, xA, xA, xA, xA, xA, xA, xA, xA, xA, xA, xA, xA, xA, xA, xA, xA, xA, xA, xA, xA, xA, xA, xA, xA, xA, xA, xA, xA, xA, xA, xA, xA, xA, xA, xA, xA, xA, xA, xA, xA, xA, xA, xA, xA, xA, xA, xA, xA, xA, xA, xA, xA, xA, xA, xA, xA, xA, xA, xA, xA, xA, xA, xA, xA, xA, xA, xA, xA, xA, xA, xA, xA, xA, xA, xA, xA, xA, xA, xA, xA, xA, xA, xA, xA, xA, xA, xA, xA, xA, xA, xA, xA, xA, xA, xA, xA, xA, xA, xA, xA, xA, .any]) (fun i => [some (.box 32 (staC s))]) 0 [0]
  ⟨by simp, by simp [prevH]⟩ (by simp [Ptr, I]) (by simp [staC]) (by simp) (by simp) (by simp) ?_
 clear hi1 hi2 hlt
 rintro i ⟨hi1, hi2⟩
 simp [Ptr, I, HL, staC] at hi1 hi2 ⊢
 refine alt (fun hlt => ?_) (fun hlt => ?_)
 ·obtain ⟨p, hc⟩ : ∃ p, s.holds[i]? = some p := ⟨s.holds[i], by simp [hlt]⟩
  have hpo := ok5 p (List.mgE hc)
  have hcb := holv_get hc
  rw [drop_cons hc] at hi2
  have w2 := wS (i := i) (by omega)
  have w3 : IntKind.i64.wrap ((i : Int) - 1) = (i : Int) - 1 := wrap_i64 (by omega) (by omega)
  simp [hcb, holF]
  refine call0 (RholdMay_ok p hpo.2.2.2) (by simp [holC]) ?_
  rintro y H' ⟨rfl, rfl⟩
  refine ⟨.inl (by simp), le_ok rfl, ?_⟩
  cases hm : mayH p
  ·simp [EV.lit]
   exact fin [] (by decide) rfl rfl rfl ⟨rfl, by rw [chk_f (mayS_h (by rw [hi2, holL, hm]; simp))]⟩
  have hnx : ∀ (q : aft (prevH s.holds i) p.id = true), holL none s.holds = holL (prevH s.holds (i + 1)) (s.holds.drop (i + 1)) := by
   intro q
   rw [hi2, holL, hm, q]
   simp [prevH, hc]
  simp [EV.lit]
  refine alt (fun h0 => ?_) (fun h0 => ?_)
  ·obtain ⟨q, hq⟩ : ∃ q, s.holds[i - 1]? = some q := ⟨s.holds[i - 1]'(by omega), by simp⟩
   have hqb := holv_get hq
   have hti : ((i : Int) - 1).toNat = i - 1 := by omega
   have hpv : prevH s.holds i = some q.id := by simp [prevH, hq, show i ≠ 0 by omega]
   have h1 : (1 : Int) ≤ (i : Int) := by omega
   simp [h0, w3, hqb, hti, holF, h1, hcb]
   refine alt (fun c1 => ?_) (fun c1 => ?_)
   ·simp
    exact fin [] (by decide) rfl rfl rfl ⟨rfl, by rw [chk_f (mayS_h (by rw [hi2, holL, hm, hpv]; simp [aft, decide_eq_false (show ¬ q.id < p.id by omega)]))]⟩
   simp [w2, -Int.natCast_add]
   exact round (i + 1) [0] ⟨by omega, hnx (by rw [hpv]; exact decide_eq_true (by omega))⟩ (by omega) (by simp) (by simp) (by simp) (by simp) (by simp)
  ·have hi0 : i = 0 := by omega
   subst hi0
   simp [IntKind.wrap_i64]
   exact round 1 [0] ⟨by omega, hnx (by simp [prevH, aft])⟩ (by omega) (by simp) (by simp) (by simp) (by simp) (by simp)
 have hil : i = s.holds.length := by omega
 subst hil
 have hhs : holL none s.holds = true := by rw [hi2]; simp [holL]
 simp
 refine call0 (Rsum_ok s hs (by omega) hps hhs) (by simp [SV, staC]) ?_
 rintro y H' ⟨rfl, rfl⟩
 simp [I]
 have hS : mayS s = decide (total s ≤ 1125899906842624) := by
  simp only [mayS, hps, hhs, Bool.and_true]
  rw [decide_eq_true (show 0 ≤ s.num ∧ s.num ≤ 1099511627776 ∧ 0 ≤ s.h0 ∧ s.h0 ≤ 1125899906842624 ∧ 0 ≤ s.h1 ∧ s.h1 ≤ 1125899906842624 ∧ s.pays.length ≤ 8 ∧ s.holds.length + s.pays.length ≤ 8 by omega), Bool.true_and]
 refine alt (fun c => ?_) (fun c => ?_)
 ·simp
  exact fin [] (by decide) rfl rfl rfl ⟨rfl, by rw [chk_f (by rw [hS]; exact decide_eq_false (by omega))]⟩
 ·simp
  exact fin [] (by decide) rfl rfl rfl ⟨rfl, by rw [chkS, if_pos (by rw [hS]; exact decide_eq_true (by omega))]⟩
theorem RTotal_ok (s : Sta) (hs : s.ok) : ECalls Tryz.prog 77 [SV s] [] fun y H' => H' = [] ∧ y = I .i64 (totS s) := by
 refine ecalls k_RTotal ?_
 simp [c_RTotal, SV, staC]
 refine call0 (RCheck_ok s hs) (by simp [SV, staC]) ?_
 rintro y H' ⟨rfl, rfl⟩
 by_cases hm : mayS s = true
 ·obtain ⟨hr, hp, hh, htot⟩ := mayS_t hm
  simp [I, chkS, hm]
  refine call0 (Rsum_ok s hs (by omega) hp hh) (by simp [SV, staC]) ?_
  rintro y H' ⟨rfl, rfl⟩
  simp
  exact fin [] (by decide) rfl rfl rfl ⟨rfl, by simp [totS, hm]⟩
 ·simp [I, chkS, hm]
  exact fin [] (by decide) rfl rfl rfl ⟨rfl, by simp [totS, hm]⟩
def yljt : UL | _ => [xM 6 2 8]
def ylju : UL | _ => xM 0 3 0 :: xc 1 4 .geq 3 0 :: xM 2 5 4 :: yM 3 6 5 true 0 :: xG 4 7 5 true (.bin .lss (.t 6) (xK 16)) :: xR 5 8 5 7 :: hid yljt
def ybjv : UB | _ => .seq (reg0 [xQ 0 2 (.mov (.k (.bool false)))] 1) (.seq (reg0 (hid ylju) 7) .ret)
attribute [simp] yljt ylju ybjv
def c_BParty : EB × List QOp × Nat := ((hid ybjv), [(.mov (.t 2))], 9)
theorem k_BParty : cfun Tryz.prog 53 = some c_BParty := by kernel_rfl
def ybjx : UB | _ => reg0 [xQ 0 2 (.mov (.k (.bool false)))] 1
def yljy : UL | _ => [xM 6 2 8]
def yljz : UL | _ => xM 0 3 0 :: xc 1 4 .eql 3 0 :: xM 2 5 4 :: yM 3 6 5 false 0 :: xG 4 7 5 false (.bin .eql (.t 6) (xK 1)) :: xP 5 8 5 7 :: hid yljy
def ylk1 : UL | _ => [xM 18 24 23, yF 19 25 24 false 37 2, yL 20 26 24 false 25, xG 21 27 24 false (.bin .gtr (.t 26) (xK 1125899906842624)), xP 22 28 24 27, xM 23 5 28]
def ylk2 : UL | _ => xP 12 18 14 17 :: xM 13 19 18 :: yF 14 20 19 false 37 2 :: yL 15 21 19 false 20 :: xG 16 22 19 false (.bin .lss (.t 21) (xK 0)) :: xP 17 23 19 22 :: hid ylk1
def ylk3 : UL | _ => xG 6 12 9 false (.bin .lss (.t 11) (xK 1)) :: xP 7 13 9 12 :: xM 8 14 13 :: yF 9 15 14 false 36 2 :: yL 10 16 14 false 15 :: xG 11 17 14 false (.bin .gtr (.t 16) (xK 65536)) :: hid ylk2
def ylk4 : UL | _ => xD 0 6 5 3 :: xO 1 7 (.call 52 [.t 6]) :: xQ 2 8 (.eqi true (.t 7)) :: xM 3 9 8 :: yF 4 10 9 false 36 2 :: yL 5 11 9 false 10 :: hid ylk3
def ylk6 : UL | _ => [yL 18 49 43 false 48, xG 19 50 43 false (.bin .eql (.t 46) (.t 49)), xP 20 51 43 50, xM 21 30 51]
def ylk7 : UL | _ => xM 12 43 42 :: yF 13 44 43 false 34 2 :: xG 14 45 43 false (.iad 2 1 (.t 44) (xK 0)) :: yL 15 46 43 false 45 :: yF 16 47 43 false 34 2 :: xG 17 48 43 false (.iad 2 1 (.t 47) (xK 1)) :: hid ylk6
def ylk8 : UL | _ => yF 6 37 36 false 34 2 :: xG 7 38 36 false (.iad 2 1 (.t 37) (xK 1)) :: yL 8 39 36 false 38 :: ⟨9, (some 40), (some (36, false)), (.call 53 [.t 39]), []⟩ :: xG 10 41 36 false (.un .not (.t 40)) :: xP 11 42 36 41 :: hid ylk7
def ylk9 : UL | _ => xF 0 31 34 2 :: xQ 1 32 (.iad 2 1 (.t 31) (xK 0)) :: xL 2 33 32 :: xO 3 34 (.call 53 [.t 33]) :: xQ 4 35 (.un .not (.t 34)) :: xM 5 36 35 :: hid ylk8
def ylkb : UL | _ => [xD 0 54 5 3, xF 2 56 33 2, xL 3 57 56, ⟨1, (some 55), none, (.call 50 [.t 54]), [2, 3]⟩, xb 4 58 .neq 55 57, xM 5 53 58]
def ylkd : UL | _ => [xM 6 60 66]
def ylke : UL | _ => xF 0 61 1 3 :: xQ 1 62 (.iad 2 1 (.t 61) (xK 0)) :: xL 2 63 62 :: xF 3 64 37 2 :: xL 4 65 64 :: xb 5 66 .lss 63 65 :: hid ylkd
def ybkh : UB | _ => .seq (reg1 (hid ylkb) 6) (.cond (.t 53) (.seq (reg0 [xQ 0 59 (.mki 121 (xK 20)), xM 1 4 59] 2) .ret) (.seq (reg0 (hid ylke) 7) (.cond (.t 60) (.seq (reg0 [xQ 0 67 (.mki 121 (xK 26)), xM 1 4 67] 2) .ret) .skip)))
def ybki : UB | _ => .seq (reg0 (hid ylk9) 22) (.cond (.t 30) (.seq (reg0 [xQ 0 52 (.mki 121 (xK 33)), xM 1 4 52] 2) .ret) (hid ybkh))
def ybkj : UB | _ => .seq (reg0 (hid ylk4) 24) (.cond (.t 5) (.seq (reg0 [xQ 0 29 (.mki 121 (xK 1)), xM 1 4 29] 2) .ret) (hid ybki))
def ybkl : UB | _ => .seq (.block 0 (hid ybkj)) (.seq (reg0 [xQ 0 4 (.mov (.k .nilIface))] 1) .ret)
def ybkm : UB | _ => .seq (reg0 [xW 0 2 38 0, xW 1 3 42 1, xQ 2 4 (.mov (.k .nilIface))] 3) (hid ybkl)
attribute [simp] ybjx yljy yljz ylk1 ylk2 ylk3 ylk4 ylk6 ylk7 ylk8 ylk9 ylkb ylkd ylke ybkh ybki ybkj ybkl ybkm
def c_BCheck : EB × List QOp × Nat := ((hid ybkm), [(.mov (.t 4))], 68)
theorem k_BCheck : cfun Tryz.prog 22 = some c_BCheck := by kernel_rfl
def ylko : UL | _ => [xM 6 2 8]
def ylkp : UL | _ => xM 0 3 0 :: xc 1 4 .geq 3 0 :: xM 2 5 4 :: yM 3 6 5 true 0 :: xG 4 7 5 true (.bin .lss (.t 6) (xK 16)) :: xR 5 8 5 7 :: hid ylko
def ybkq : UB | _ => .seq (reg0 [xQ 0 2 (.mov (.k (.bool false)))] 1) (.seq (reg0 (hid ylkp) 7) .ret)
attribute [simp] ylko ylkp ybkq
def c_RParty : EB × List QOp × Nat := ((hid ybkq), [(.mov (.t 2))], 9)
theorem k_RParty : cfun Tryz.prog 76 = some c_RParty := by kernel_rfl
def ylks : UL | _ => [xM 18 23 22, yF 19 24 23 false 37 2, yL 20 25 23 false 24, xG 21 26 23 false (.bin .gtr (.t 25) (xK 1125899906842624)), xP 22 27 23 26]
def ylkt : UL | _ => xP 12 17 13 16 :: xM 13 18 17 :: yF 14 19 18 false 37 2 :: yL 15 20 18 false 19 :: xG 16 21 18 false (.bin .lss (.t 20) (xK 0)) :: xP 17 22 18 21 :: hid ylks
def ylku : UL | _ => xG 6 11 8 false (.bin .lss (.t 10) (xK 1)) :: xP 7 12 8 11 :: xM 8 13 12 :: yF 9 14 13 false 36 2 :: yL 10 15 13 false 14 :: xG 11 16 13 false (.bin .gtr (.t 15) (xK 65536)) :: hid ylkt
def ylkv : UL | _ => xD 0 5 5 3 :: xO 1 6 (.call 75 [.t 5]) :: xc 2 7 .neq 6 0 :: xM 3 8 7 :: yF 4 9 8 false 36 2 :: yL 5 10 8 false 9 :: hid ylku
def ylky : UL | _ => [yL 18 46 40 false 45, xG 19 47 40 false (.bin .eql (.t 43) (.t 46)), xP 20 48 40 47]
def ylkz : UL | _ => xM 12 40 39 :: yF 13 41 40 false 34 2 :: xG 14 42 40 false (.iad 2 1 (.t 41) (xK 0)) :: yL 15 43 40 false 42 :: yF 16 44 40 false 34 2 :: xG 17 45 40 false (.iad 2 1 (.t 44) (xK 1)) :: hid ylky
def yll0 : UL | _ => yF 6 34 33 false 34 2 :: xG 7 35 33 false (.iad 2 1 (.t 34) (xK 1)) :: yL 8 36 33 false 35 :: ⟨9, (some 37), (some (33, false)), (.call 76 [.t 36]), []⟩ :: xG 10 38 33 false (.un .not (.t 37)) :: xP 11 39 33 38 :: hid ylkz
def yll1 : UL | _ => xF 0 28 34 2 :: xQ 1 29 (.iad 2 1 (.t 28) (xK 0)) :: xL 2 30 29 :: xO 3 31 (.call 76 [.t 30]) :: xQ 4 32 (.un .not (.t 31)) :: xM 5 33 32 :: hid yll0
def yll4 : UL | _ => [xD 0 49 5 3, xF 2 51 33 2, xL 3 52 51, ⟨1, (some 50), none, (.call 77 [.t 49]), [2, 3]⟩, xb 4 53 .neq 50 52]
def yll7 : UL | _ => [xF 0 54 37 2, xL 1 55 54, xF 2 56 1 3, xQ 3 57 (.iad 2 1 (.t 56) (xK 0)), xL 4 58 57, xb 5 59 .gtr 55 58]
def yblb : UB | _ => .seq (.seq (reg1 (hid yll4) 5) (.cond (.t 53) (.seq (reg0 [xC 0 4 20] 1) .ret) .skip)) (.seq (.seq (reg0 (hid yll7) 6) (.cond (.t 59) (.seq (reg0 [xC 0 4 26] 1) .ret) .skip)) (.seq (reg0 [xC 0 4 0] 1) .ret))
def yblc : UB | _ => .seq (reg0 [xW 0 2 28 0, xW 1 3 32 1, xC 2 4 0] 3) (.seq (.seq (reg0 (hid ylkv) 23) (.cond (.t 27) (.seq (reg0 [xC 0 4 1] 1) .ret) .skip)) (.seq (.seq (reg0 (hid yll1) 21) (.cond (.t 48) (.seq (reg0 [xC 0 4 33] 1) .ret) .skip)) (hid yblb)))
attribute [simp] ylks ylkt ylku ylkv ylky ylkz yll0 yll1 yll4 yll7 yblb yblc
def c_RBCheck : EB × List QOp × Nat := ((hid yblc), [(.mov (.t 4))], 60)
theorem k_RBCheck : cfun Tryz.prog 35 = some c_RBCheck := by kernel_rfl
theorem chk_t {s : Sta} (h : mayS s = true) : chkS s = 0 := by simp [chkS, h]
def bldE (p : Prm) (s : Sta) : Nat :=
 if mayS s = false ∨ p.dl < 1 ∨ 65536 < p.dl ∨ p.fe < 0 ∨ 1125899906842624 < p.fe then 1
 else if ¬ (0 ≤ p.k0 ∧ p.k0 < 16) ∨ ¬ (0 ≤ p.k1 ∧ p.k1 < 16) ∨ p.k0 = p.k1 then 33
 else if totS s ≠ p.am then 20 else if s.h0 < p.fe then 26 else 0
@[simp] theorem errV_26b : Value.iface 121 (.int .i64 26) = errV 26 := rfl
@[simp] theorem errV_33b : Value.iface 121 (.int .i64 33) = errV 33 := rfl
@[simp] theorem errV_20b : Value.iface 121 (.int .i64 20) = errV 20 := rfl
@[simp] theorem errV_1b : Value.iface 121 (.int .i64 1) = errV 1 := rfl
theorem BParty_ok (n : Int) : ECalls Tryz.prog 53 [I .i64 n] [] fun y H' => H' = [] ∧ y = .lit (.bool (decide (0 ≤ n ∧ n < 16))) := by
 refine ecalls k_BParty ?_
 simp [c_BParty, I]
 by_cases c1 : 0 ≤ n
 ·by_cases c2 : n < 16
  ·simp [c1, c2]
   exact fin0
  ·simp [c1, c2]
   exact fin0
 ·simp [c1]
  exact fin0
theorem RParty_ok (n : Int) : ECalls Tryz.prog 76 [I .i64 n] [] fun y H' => H' = [] ∧ y = .lit (.bool (decide (0 ≤ n ∧ n < 16))) := by
 refine ecalls k_RParty ?_
 simp [c_RParty, I]
 by_cases c1 : 0 ≤ n
 ·by_cases c2 : n < 16
  ·simp [c1, c2]
   exact fin0
  ·simp [c1, c2]
   exact fin0
 ·simp [c1]
  exact fin0
theorem BCheck_ok (p : Prm) (s : Sta) (hp : p.ok) (hs : s.ok) : ECalls Tryz.prog 22 [PVv p, SV s] [] fun y H' => H' = [] ∧ y = .lit (errV (bldE p s)) := by
 have h1 := hp.1
 have lp := prmC_len h1
 have tp := pm_take h1
 have e33 := idx_of (pm_at h1 1) (by omega)
 have e34 := idx_of (pm_at h1 2) (by omega)
 have e35 := idx_of (pm_at h1 3) (by omega)
 have e36 := idx_of (pm_at h1 4) (by omega)
 have e37 := idx_of (pm_at h1 5) (by omega)
 refine ecalls k_BCheck ?_
 simp [c_BCheck, PVv, SV, staC, I, iC, lp, tp, e33, e34, e35, e36, e37, w_0, w_1, -errV_0]
 refine call0 (SCheck_ok s hs) (by simp [PVv, SV, staC, I, iC, lp, tp, e33, e34, e35, e36, e37, w_0, w_1, -errV_0]) ?_
 rintro y H' ⟨rfl, rfl⟩
 refine ⟨.inl (by simp [I]), le_ok rfl, ?_⟩
 cases hm : mayS s
 ·rw [show bldE p s = 1 from if_pos (.inl hm)]
  simp [hm, PVv, SV, staC, I, iC, lp, tp, e33, e34, e35, e36, e37, w_0, w_1, -errV_0]
  exact fin0
 simp [hm, PVv, SV, staC, I, iC, lp, tp, e33, e34, e35, e36, e37, w_0, w_1, -errV_0]
 by_cases c1 : p.dl < 1
 ·have d1 : ¬ 1 ≤ p.dl := by omega
  rw [show bldE p s = 1 from if_pos (.inr (.inl c1))]
  simp [c1, d1, PVv, SV, staC, I, iC, lp, tp, e33, e34, e35, e36, e37, w_0, w_1, -errV_0]
  exact fin0
 have d1 : 1 ≤ p.dl := by omega
 by_cases c2 : 65536 < p.dl
 ·have d2 : ¬ p.dl ≤ 65536 := by omega
  rw [show bldE p s = 1 from if_pos (.inr (.inr (.inl c2)))]
  simp [c1, d1, c2, d2, PVv, SV, staC, I, iC, lp, tp, e33, e34, e35, e36, e37, w_0, w_1, -errV_0]
  exact fin0
 have d2 : p.dl ≤ 65536 := by omega
 by_cases c3 : p.fe < 0
 ·have d3 : ¬ 0 ≤ p.fe := by omega
  rw [show bldE p s = 1 from if_pos (.inr (.inr (.inr (.inl c3))))]
  simp [c1, d1, c2, d2, c3, d3, PVv, SV, staC, I, iC, lp, tp, e33, e34, e35, e36, e37, w_0, w_1, -errV_0]
  exact fin0
 have d3 : 0 ≤ p.fe := by omega
 by_cases c4 : 1125899906842624 < p.fe
 ·have d4 : ¬ p.fe ≤ 1125899906842624 := by omega
  rw [show bldE p s = 1 from if_pos (.inr (.inr (.inr (.inr c4))))]
  simp [c1, d1, c2, d2, c3, d3, c4, d4, PVv, SV, staC, I, iC, lp, tp, e33, e34, e35, e36, e37, w_0, w_1, -errV_0]
  exact fin0
 have d4 : p.fe ≤ 1125899906842624 := by omega
 have n1 : ¬ (mayS s = false ∨ p.dl < 1 ∨ 65536 < p.dl ∨ p.fe < 0 ∨ 1125899906842624 < p.fe) := by
  rintro (h | h | h | h | h)
  ·rw [hm] at h; simp at h
  ·exact c1 h
  ·exact c2 h
  ·exact c3 h
  ·exact c4 h
 simp [c1, d1, c2, d2, c3, d3, c4, d4, PVv, SV, staC, I, iC, lp, tp, e33, e34, e35, e36, e37, w_0, w_1, -errV_0]
 refine call0 (BParty_ok p.k0) (by simp [PVv, SV, staC, I, iC, lp, tp, e33, e34, e35, e36, e37, w_0, w_1, -errV_0]) ?_
 rintro y H' ⟨rfl, rfl⟩
 refine ⟨.inl (by simp), le_ok rfl, ?_⟩
 cases c5 : decide (0 ≤ p.k0 ∧ p.k0 < 16)
 ·have c5 := of_decide_eq_false c5
  rw [show bldE p s = 33 by unfold bldE; rw [if_neg n1, if_pos (.inl c5)]]
  simp [PVv, SV, staC, I, iC, lp, tp, e33, e34, e35, e36, e37, w_0, w_1, -errV_0]
  exact fin0
 have c5 := of_decide_eq_true c5
 simp [PVv, SV, staC, I, iC, lp, tp, e33, e34, e35, e36, e37, w_0, w_1, -errV_0]
 refine call0 (BParty_ok p.k1) (by simp [PVv, SV, staC, I, iC, lp, tp, e33, e34, e35, e36, e37, w_0, w_1, -errV_0]) ?_
 rintro y H' ⟨rfl, rfl⟩
 refine ⟨.inl (by simp), le_ok rfl, ?_⟩
 cases c6 : decide (0 ≤ p.k1 ∧ p.k1 < 16)
 ·have c6 := of_decide_eq_false c6
  rw [show bldE p s = 33 by unfold bldE; rw [if_neg n1, if_pos (.inr (.inl c6))]]
  simp [PVv, SV, staC, I, iC, lp, tp, e33, e34, e35, e36, e37, w_0, w_1, -errV_0]
  exact fin0
 have c6 := of_decide_eq_true c6
 simp [PVv, SV, staC, I, iC, lp, tp, e33, e34, e35, e36, e37, w_0, w_1, -errV_0]
 by_cases c7 : p.k0 = p.k1
 ·rw [show bldE p s = 33 by unfold bldE; rw [if_neg n1, if_pos (.inr (.inr c7))]]
  simp [c7, PVv, SV, staC, I, iC, lp, tp, e33, e34, e35, e36, e37, w_0, w_1, -errV_0]
  exact fin0
 have n2 : ¬ (¬ (0 ≤ p.k0 ∧ p.k0 < 16) ∨ ¬ (0 ≤ p.k1 ∧ p.k1 < 16) ∨ p.k0 = p.k1) := by
  rintro (h | h | h)
  ·exact h c5
  ·exact h c6
  ·exact c7 h
 simp [c7, PVv, SV, staC, I, iC, lp, tp, e33, e34, e35, e36, e37, w_0, w_1, -errV_0]
 refine call0 (Total_ok s hs) (by simp [PVv, SV, staC, I, iC, lp, tp, e33, e34, e35, e36, e37, w_0, w_1, -errV_0]) ?_
 rintro y H' ⟨rfl, rfl⟩
 refine ⟨.inl (by simp [I]), le_ok rfl, ?_⟩
 by_cases c8 : totS s = p.am
 rotate_left
 ·rw [show bldE p s = 20 by unfold bldE; rw [if_neg n1, if_neg n2, if_pos c8]]
  simp [c8, PVv, SV, staC, I, iC, lp, tp, e33, e34, e35, e36, e37, w_0, w_1, -errV_0]
  exact fin0
 simp [c8, PVv, SV, staC, I, iC, lp, tp, e33, e34, e35, e36, e37, w_0, w_1, -errV_0]
 by_cases c9 : s.h0 < p.fe
 ·have d9 : ¬ p.fe ≤ s.h0 := by omega
  rw [show bldE p s = 26 by unfold bldE; rw [if_neg n1, if_neg n2, if_neg (by simpa using c8), if_pos c9]]
  simp [c9, d9, PVv, SV, staC, I, iC, lp, tp, e33, e34, e35, e36, e37, w_0, w_1, -errV_0]
  exact fin0
 have d9 : p.fe ≤ s.h0 := by omega
 rw [show bldE p s = 0 by unfold bldE; rw [if_neg n1, if_neg n2, if_neg (by simpa using c8), if_neg c9]]
 simp [c9, d9, PVv, SV, staC, I, iC, lp, tp, e33, e34, e35, e36, e37, w_0, w_1, -errV_0]
 exact fin0
theorem RBCheck_ok (p : Prm) (s : Sta) (hp : p.ok) (hs : s.ok) : ECalls Tryz.prog 35 [PVv p, SV s] [] fun y H' => H' = [] ∧ y = I .i64 (bldE p s) := by
 have h1 := hp.1
 have lp := prmC_len h1
 have tp := pm_take h1
 have e33 := idx_of (pm_at h1 1) (by omega)
 have e34 := idx_of (pm_at h1 2) (by omega)
 have e35 := idx_of (pm_at h1 3) (by omega)
 have e36 := idx_of (pm_at h1 4) (by omega)
 have e37 := idx_of (pm_at h1 5) (by omega)
 refine ecalls k_RBCheck ?_
 simp [c_RBCheck, PVv, SV, staC, I, iC, lp, tp, e33, e34, e35, e36, e37, w_0, w_1, -errV_0]
 refine call0 (RCheck_ok s hs) (by simp [PVv, SV, staC, I, iC, lp, tp, e33, e34, e35, e36, e37, w_0, w_1, -errV_0]) ?_
 rintro y H' ⟨rfl, rfl⟩
 refine ⟨.inl (by simp [I]), le_ok rfl, ?_⟩
 cases hm : mayS s
 ·rw [show bldE p s = 1 from if_pos (.inl hm)]
  simp [chk_f hm, PVv, SV, staC, I, iC, lp, tp, e33, e34, e35, e36, e37, w_0, w_1, -errV_0]
  exact fin0
 simp [chk_t hm, PVv, SV, staC, I, iC, lp, tp, e33, e34, e35, e36, e37, w_0, w_1, -errV_0]
 by_cases c1 : p.dl < 1
 ·have d1 : ¬ 1 ≤ p.dl := by omega
  rw [show bldE p s = 1 from if_pos (.inr (.inl c1))]
  simp [c1, d1, PVv, SV, staC, I, iC, lp, tp, e33, e34, e35, e36, e37, w_0, w_1, -errV_0]
  exact fin0
 have d1 : 1 ≤ p.dl := by omega
 by_cases c2 : 65536 < p.dl
 ·have d2 : ¬ p.dl ≤ 65536 := by omega
  rw [show bldE p s = 1 from if_pos (.inr (.inr (.inl c2)))]
  simp [c1, d1, c2, d2, PVv, SV, staC, I, iC, lp, tp, e33, e34, e35, e36, e37, w_0, w_1, -errV_0]
  exact fin0
 have d2 : p.dl ≤ 65536 := by omega
 by_cases c3 : p.fe < 0
 ·have d3 : ¬ 0 ≤ p.fe := by omega
  rw [show bldE p s = 1 from if_pos (.inr (.inr (.inr (.inl c3))))]
  simp [c1, d1, c2, d2, c3, d3, PVv, SV, staC, I, iC, lp, tp, e33, e34, e35, e36, e37, w_0, w_1, -errV_0]
  exact fin0
 have d3 : 0 ≤ p.fe := by omega
 by_cases c4 : 1125899906842624 < p.fe
 ·have d4 : ¬ p.fe ≤ 1125899906842624 := by omega
  rw [show bldE p s = 1 from if_pos (.inr (.inr (.inr (.inr c4))))]
  simp [c1, d1, c2, d2, c3, d3, c4, d4, PVv, SV, staC, I, iC, lp, tp, e33, e34, e35, e36, e37, w_0, w_1, -errV_0]
  exact fin0
 have d4 : p.fe ≤ 1125899906842624 := by omega
 have n1 : ¬ (mayS s = false ∨ p.dl < 1 ∨ 65536 < p.dl ∨ p.fe < 0 ∨ 1125899906842624 < p.fe) := by
  rintro (h | h | h | h | h)
  ·rw [hm] at h; simp at h
  ·exact c1 h
  ·exact c2 h
  ·exact c3 h
  ·exact c4 h
 simp [c1, d1, c2, d2, c3, d3, c4, d4, PVv, SV, staC, I, iC, lp, tp, e33, e34, e35, e36, e37, w_0, w_1, -errV_0]
 refine call0 (RParty_ok p.k0) (by simp [PVv, SV, staC, I, iC, lp, tp, e33, e34, e35, e36, e37, w_0, w_1, -errV_0]) ?_
 rintro y H' ⟨rfl, rfl⟩
 refine ⟨.inl (by simp), le_ok rfl, ?_⟩
 cases c5 : decide (0 ≤ p.k0 ∧ p.k0 < 16)
 ·have c5 := of_decide_eq_false c5
  rw [show bldE p s = 33 by unfold bldE; rw [if_neg n1, if_pos (.inl c5)]]
  simp [PVv, SV, staC, I, iC, lp, tp, e33, e34, e35, e36, e37, w_0, w_1, -errV_0]
  exact fin0
 have c5 := of_decide_eq_true c5
 simp [PVv, SV, staC, I, iC, lp, tp, e33, e34, e35, e36, e37, w_0, w_1, -errV_0]
 refine call0 (RParty_ok p.k1) (by simp [PVv, SV, staC, I, iC, lp, tp, e33, e34, e35, e36, e37, w_0, w_1, -errV_0]) ?_
 rintro y H' ⟨rfl, rfl⟩
 refine ⟨.inl (by simp), le_ok rfl, ?_⟩
 cases c6 : decide (0 ≤ p.k1 ∧ p.k1 < 16)
 ·have c6 := of_decide_eq_false c6
  rw [show bldE p s = 33 by unfold bldE; rw [if_neg n1, if_pos (.inr (.inl c6))]]
  simp [PVv, SV, staC, I, iC, lp, tp, e33, e34, e35, e36, e37, w_0, w_1, -errV_0]
  exact fin0
 have c6 := of_decide_eq_true c6
 simp [PVv, SV, staC, I, iC, lp, tp, e33, e34, e35, e36, e37, w_0, w_1, -errV_0]
 by_cases c7 : p.k0 = p.k1
 ·rw [show bldE p s = 33 by unfold bldE; rw [if_neg n1, if_pos (.inr (.inr c7))]]
  simp [c7, PVv, SV, staC, I, iC, lp, tp, e33, e34, e35, e36, e37, w_0, w_1, -errV_0]
  exact fin0
 have n2 : ¬ (¬ (0 ≤ p.k0 ∧ p.k0 < 16) ∨ ¬ (0 ≤ p.k1 ∧ p.k1 < 16) ∨ p.k0 = p.k1) := by
  rintro (h | h | h)
  ·exact h c5
  ·exact h c6
  ·exact c7 h
 simp [c7, PVv, SV, staC, I, iC, lp, tp, e33, e34, e35, e36, e37, w_0, w_1, -errV_0]
 refine call0 (RTotal_ok s hs) (by simp [PVv, SV, staC, I, iC, lp, tp, e33, e34, e35, e36, e37, w_0, w_1, -errV_0]) ?_
 rintro y H' ⟨rfl, rfl⟩
 refine ⟨.inl (by simp [I]), le_ok rfl, ?_⟩
 by_cases c8 : totS s = p.am
 rotate_left
 ·rw [show bldE p s = 20 by unfold bldE; rw [if_neg n1, if_neg n2, if_pos c8]]
  simp [c8, PVv, SV, staC, I, iC, lp, tp, e33, e34, e35, e36, e37, w_0, w_1, -errV_0]
  exact fin0
 simp [c8, PVv, SV, staC, I, iC, lp, tp, e33, e34, e35, e36, e37, w_0, w_1, -errV_0]
 by_cases c9 : s.h0 < p.fe
 ·have d9 : ¬ p.fe ≤ s.h0 := by omega
  rw [show bldE p s = 26 by unfold bldE; rw [if_neg n1, if_neg n2, if_neg (by simpa using c8), if_pos c9]]
  simp [c9, d9, PVv, SV, staC, I, iC, lp, tp, e33, e34, e35, e36, e37, w_0, w_1, -errV_0]
  exact fin0
 have d9 : p.fe ≤ s.h0 := by omega
 rw [show bldE p s = 0 by unfold bldE; rw [if_neg n1, if_neg n2, if_neg (by simpa using c8), if_neg c9]]
 simp [c9, d9, PVv, SV, staC, I, iC, lp, tp, e33, e34, e35, e36, e37, w_0, w_1, -errV_0]
 exact fin0
end Go.Proofs.YtddcceahaigodaaGreatDoor
