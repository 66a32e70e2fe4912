import Derived.Test.YtddcceahaigodaaGreatDoorAll12
import Derived.Test.YtddcceahaigodaaGreatDoorAll16
import Derived.Test.YtddcceahaigodaaGreatDoorAll10
import Derived.Test.YtddcceahaigodaaGreatDoorAll15
import Derived.Test.YtddcceahaigodaaGreatDoorAll11
import Derived.Test.YtddcceahaigodaaGreatDoorAll13
import Derived.Test.YtddcceahaigodaaGreatDoorAll6
import Derived.Test.YtddcceahaigodaaGreatDoorAll8
set_option maxHeartbeats 64000000
namespace Go.Proofs.YtddcceahaigodaaGreatDoor
open Go Go.EW
set_option linter.unusedSimpArgs false
set_option linter.unusedVariables false
def ylo8 : UL | _ => [yL 6 13 11 false 12, xG 7 14 11 false (.len (.t 13)), xG 8 15 11 false (.bin .gtr (.t 14) (xK 8)), xP 9 16 11 15]
def ylo9 : UL | _ => xF 0 7 0 1 :: xL 1 8 7 :: xE 2 9 8 :: xc 3 10 .lss 9 1 :: xM 4 11 10 :: yF 5 12 11 false 0 1 :: hid ylo8
def ylod : UL | _ => [xM 0 17 3, xF 1 18 0 1, xL 2 19 18, xE 3 20 19, xb 4 21 .lss 17 20]
def yloe : UL | _ => [xN 6 (.fz (.sto 35 (.t 4) (.t 28)))]
def ylof : UL | _ => xF 0 24 0 1 :: xL 1 25 24 :: xM 2 26 3 :: xI 3 27 35 25 26 :: xD 4 28 35 27 :: xQ 5 4 (.alloc 137 (([xS] : List Value) ++ zU8 ++ [xZ, xZ])) :: hid yloe
def ylog : UL | _ => [xP 18 47 43 46, xM 19 48 47, yF 20 49 48 false 34 4, yL 21 50 48 false 49, xG 22 51 48 false (.bin .gtr (.t 50) (xK 65536)), xP 23 52 48 51]
def yloh : UL | _ => xG 12 41 38 false (.bin .gtr (.t 40) (xK 1099511627776)) :: xP 13 42 38 41 :: xM 14 43 42 :: yF 15 44 43 false 34 4 :: yL 16 45 43 false 44 :: xG 17 46 43 false (.bin .lss (.t 45) (xK 0)) :: hid ylog
def yloi : UL | _ => yL 6 35 33 false 34 :: xG 7 36 33 false (.bin .lss (.t 35) (xK 0)) :: xP 8 37 33 36 :: xM 9 38 37 :: yF 10 39 38 false 33 4 :: yL 11 40 38 false 39 :: hid yloh
def yloj : UL | _ => xF 0 29 0 4 :: xL 1 30 29 :: xE 2 31 30 :: xc 3 32 .lss 31 1 :: xM 4 33 32 :: yF 5 34 33 false 33 4 :: hid yloi
def yloo : UL | _ => [xM 0 53 6, xF 1 54 0 4, xL 2 55 54, xE 3 56 55, xb 4 57 .lss 53 56]
def ylop : UL | _ => [yL 12 72 67 false 71, xG 13 73 67 false (.bin .gtr (.t 72) (xK 15)), xP 14 74 67 73]
def yloq : UL | _ => xb 6 66 .leq 64 65 :: xM 7 67 66 :: yF 8 68 67 false 0 4 :: yL 9 69 67 false 68 :: yM 10 70 67 false 6 :: xG 11 71 67 false (.isl 1 (.t 69) (.t 70)) :: hid ylop
def ylor : UL | _ => xF 0 60 0 4 :: xL 1 61 60 :: xM 2 62 6 :: xI 3 63 1 61 62 :: xL 4 64 63 :: xM 5 65 5 :: hid yloq
def ylou : UL | _ => [xF 0 75 0 4, xL 1 76 75, xM 2 77 6, xI 3 78 1 76 77, xL 4 79 78, xM 5 5 79]
def ybox : UB | _ => .seq (.seq (reg0 (hid yloo) 5) (.cond (.t 57) .skip (.exit 2))) (.seq (.block 3 (.seq (.seq (reg0 (hid ylor) 15) (.cond (.t 74) (.seq (reg0 [xC 0 2 1] 1) .ret) .skip)) (reg0 (hid ylou) 6))) (reg0 [xM 0 58 6, xc 1 59 .add 58 1, xM 2 6 59] 3))
def yboy : UB | _ => .seq (reg0 [xQ 0 5 (.mov (.k (.int .i64 (-1))))] 1) (.seq (reg0 [xC 0 6 0] 1) (.block 2 (.loop (hid ybox))))
def yboz : UB | _ => .seq (reg0 (hid ylof) 7) (.seq (.seq (reg0 (hid yloj) 24) (.cond (.t 52) (.seq (reg0 [xC 0 2 1] 1) .ret) .skip)) (hid yboy))
def ybp1 : UB | _ => .seq (.seq (reg0 (hid ylod) 5) (.cond (.t 21) .skip (.exit 0))) (.seq (.block 1 (hid yboz)) (reg0 [xM 0 22 3, xc 1 23 .add 22 1, xM 2 3 23] 3))
def ybp3 : UB | _ => .seq (.seq (reg0 [xC 0 3 0] 1) (.block 0 (.loop (hid ybp1)))) (.seq (reg0 [xC 0 2 0] 1) .ret)
def ybp4 : UB | _ => .seq (reg0 [xW 0 1 133 0, xC 1 2 0] 2) (.seq (.seq (reg0 (hid ylo9) 10) (.cond (.t 16) (.seq (reg0 [xC 0 2 1] 1) .ret) .skip)) (hid ybp3))
attribute [simp] ylo8 ylo9 ylod yloe ylof ylog yloh yloi yloj yloo ylop yloq ylor ylou ybox yboy yboz ybp1 ybp3 ybp4
def c_RCCheck : EB × List QOp × Nat := ((hid ybp4), [(.mov (.t 2))], 80)
theorem k_RCCheck : cfun Tryz.prog 136 = some c_RCCheck := by kernel_rfl
def ylp9 : UL | _ => [xM 6 6 19]
def ylpa : UL | _ => xF 0 14 2 1 :: xL 1 15 14 :: xM 2 16 5 :: xI 3 17 2 15 16 :: xF 4 18 0 17 :: xL 5 19 18 :: hid ylp9
def ylpb : UL | _ => [xM 6 26 25, yM 7 27 26 false 4, yM 8 28 26 false 6, xG 9 29 26 false (.bin .add (.t 27) (.t 28)), xG 10 30 26 false (.bin .gtr (.t 29) (xK 1125899906842624)), xP 11 31 26 30]
def ylpc : UL | _ => xM 0 20 6 :: xc 1 21 .lss 20 0 :: xM 2 22 21 :: yM 3 23 22 false 6 :: xG 4 24 22 false (.bin .gtr (.t 23) (xK 1125899906842624)) :: xP 5 25 22 24 :: hid ylpb
def ybpg : UB | _ => .seq (reg0 (hid ylpa) 7) (.seq (.seq (reg0 (hid ylpc) 12) (.cond (.t 31) (.seq (reg0 [xC 0 2 0, xC 1 3 5] 2) .ret) .skip)) (reg0 [xM 0 32 4, xM 1 33 6, xb 2 34 .add 32 33, xM 3 4 34] 4))
def ybpi : UB | _ => .seq (.seq (reg0 [xM 0 7 5, xF 1 8 2 1, xL 2 9 8, xE 3 10 9, xb 4 11 .lss 7 10] 5) (.cond (.t 11) .skip (.exit 0))) (.seq (.block 1 (hid ybpg)) (reg0 [xM 0 12 5, xc 1 13 .add 12 1, xM 2 5 13] 3))
def ybpj : UB | _ => .seq (reg0 [xC 0 5 0] 1) (.block 0 (.loop (hid ybpi)))
def ybpl : UB | _ => .seq (reg0 [xC 0 4 0] 1) (.seq (hid ybpj) (.seq (reg0 [xM 0 35 4, xM 1 2 35, xC 2 3 0] 3) .ret))
def ybpm : UB | _ => .seq (reg0 [xW 0 1 71 0, xC 1 2 0, xC 2 3 0] 3) (hid ybpl)
attribute [simp] ylp9 ylpa ylpb ylpc ybpg ybpi ybpj ybpl ybpm
def c_RTxTotal : EB × List QOp × Nat := ((hid ybpm), [(.mov (.t 2)), (.mov (.t 3))], 36)
theorem k_RTxTotal : cfun Tryz.prog 47 = some c_RTxTotal := by kernel_rfl
def ylpo : UL | _ => [xG 30 41 37 false (.bin .gtr (.t 40) (xK 64)), xP 31 42 37 41]
def ylpp : UL | _ => xG 24 35 31 false (.bin .lss (.t 34) (xK 1)) :: xP 25 36 31 35 :: xM 26 37 36 :: yF 27 38 37 false 2 1 :: yL 28 39 37 false 38 :: xG 29 40 37 false (.len (.t 39)) :: hid ylpo
def ylpq : UL | _ => xG 18 29 25 false (.bin .gtr (.t 28) (xK 64)) :: xP 19 30 25 29 :: xM 20 31 30 :: yF 21 32 31 false 2 1 :: yL 22 33 31 false 32 :: xG 23 34 31 false (.len (.t 33)) :: hid ylpp
def ylpr : UL | _ => xG 12 23 19 false (.bin .lss (.t 22) (xK 1)) :: xP 13 24 19 23 :: xM 14 25 24 :: yF 15 26 25 false 1 1 :: yL 16 27 25 false 26 :: xG 17 28 25 false (.len (.t 27)) :: hid ylpq
def ylps : UL | _ => xG 6 17 14 false (.bin .gtr (.t 16) (xK 1099511627776)) :: xP 7 18 14 17 :: xM 8 19 18 :: yF 9 20 19 false 1 1 :: yL 10 21 19 false 20 :: xG 11 22 19 false (.len (.t 21)) :: hid ylpr
def ylpt : UL | _ => xF 0 11 0 1 :: xL 1 12 11 :: xc 2 13 .lss 12 0 :: xM 3 14 13 :: yF 4 15 14 false 0 1 :: yL 5 16 14 false 15 :: hid ylps
def ylpx : UL | _ => [xM 0 43 3, xF 1 44 1 1, xL 2 45 44, xE 3 46 45, xb 4 47 .lss 43 46]
def ylpy : UL | _ => [xN 6 (.fz (.sto 35 (.t 4) (.t 54)))]
def ylpz : UL | _ => xF 0 50 1 1 :: xL 1 51 50 :: xM 2 52 3 :: xI 3 53 35 51 52 :: xD 4 54 35 53 :: xQ 5 4 (.alloc 130 (zU8 ++ [xZ, xZ, xS])) :: hid ylpy
def ylq0 : UL | _ => [xG 24 79 75 false (.bin .gtr (.t 78) (xK 64)), xP 25 80 75 79]
def ylq1 : UL | _ => xG 18 73 70 false (.bin .gtr (.t 72) (xK 7)) :: xP 19 74 70 73 :: xM 20 75 74 :: yF 21 76 75 false 34 4 :: yL 22 77 75 false 76 :: xG 23 78 75 false (.len (.t 77)) :: hid ylq0
def ylq2 : UL | _ => yL 12 67 65 false 66 :: xG 13 68 65 false (.bin .lss (.t 67) (xK 0)) :: xP 14 69 65 68 :: xM 15 70 69 :: yF 16 71 70 false 33 4 :: yL 17 72 70 false 71 :: hid ylq1
def ylq3 : UL | _ => yF 6 61 59 false 32 60 :: yL 7 62 59 false 61 :: xG 8 63 59 false (.bin .gtr (.t 62) (xK 63)) :: xP 9 64 59 63 :: xM 10 65 64 :: yF 11 66 65 false 33 4 :: hid ylq2
def ylq4 : UL | _ => xF 0 55 0 4 :: xF 1 56 32 55 :: xL 2 57 56 :: xc 3 58 .lss 57 0 :: xM 4 59 58 :: yF 5 60 59 false 0 4 :: hid ylq3
def ybqa : UB | _ => .seq (reg0 [xC 0 3 0] 1) (.block 0 (.loop (.seq (.seq (reg0 (hid ylpx) 5) (.cond (.t 47) .skip (.exit 0))) (.seq (.block 1 (.seq (reg0 (hid ylpz) 7) (.seq (reg0 (hid ylq4) 26) (.cond (.t 80) (.seq (reg0 [xC 0 2 4] 1) .ret) .skip)))) (reg0 [xM 0 48 3, xc 1 49 .add 48 1, xM 2 3 49] 3)))))
def ylqc : UL | _ => [xM 0 81 5, xF 1 82 1 1, xL 2 83 82, xE 3 84 83, xb 4 85 .lss 81 84]
def ylqf : UL | _ => [xQ 12 105 (.eqw false [(32, .u8), (1, .i64)] (.t 98) (.t 104))]
def ylqg : UL | _ => xF 6 99 1 1 :: xL 7 100 99 :: xM 8 101 6 :: xI 9 102 35 100 101 :: xF 10 103 0 102 :: xD 11 104 33 103 :: hid ylqf
def ylqh : UL | _ => xF 0 93 1 1 :: xL 1 94 93 :: xM 2 95 5 :: xI 3 96 35 94 95 :: xF 4 97 0 96 :: xD 5 98 33 97 :: hid ylqg
def ybqm : UB | _ => .seq (reg0 [xC 0 6 0] 1) (.block 4 (.loop (.seq (.seq (reg0 [xM 0 88 6, xM 1 89 5, xb 2 90 .lss 88 89] 3) (.cond (.t 90) .skip (.exit 4))) (.seq (.block 5 (.seq (reg0 (hid ylqh) 13) (.cond (.t 105) (.seq (reg0 [xC 0 2 9] 1) .ret) .skip))) (reg0 [xM 0 91 6, xc 1 92 .add 91 1, xM 2 6 92] 3)))))
def ylqr : UL | _ => [xM 0 106 7, xF 1 107 2 1, xL 2 108 107, xE 3 109 108, xb 4 110 .lss 106 109]
def ylqs : UL | _ => [xc 6 119 .lss 118 10]
def ylqt : UL | _ => xF 0 113 2 1 :: xL 1 114 113 :: xM 2 115 7 :: xI 3 116 2 114 115 :: xF 4 117 0 116 :: xL 5 118 117 :: hid ylqs
def ylqw : UL | _ => [xc 6 126 .gtr 125 1125899906842624]
def ylqx : UL | _ => xF 0 120 2 1 :: xL 1 121 120 :: xM 2 122 7 :: xI 3 123 2 121 122 :: xF 4 124 0 123 :: xL 5 125 124 :: hid ylqw
def ylr0 : UL | _ => [xO 6 133 (.call 136 [.t 132]), xM 7 8 133]
def ylr1 : UL | _ => xF 0 127 2 1 :: xL 1 128 127 :: xM 2 129 7 :: xI 3 130 2 128 129 :: xF 4 131 1 130 :: xD 5 132 1 131 :: hid ylr0
def ybr5 : UB | _ => .seq (.seq (reg0 (hid ylqx) 7) (.cond (.t 126) (.seq (reg0 [xC 0 2 5] 1) .ret) .skip)) (.seq (reg0 (hid ylr1) 8) (.seq (reg0 [xM 0 134 8, xc 1 135 .neq 134 0] 2) (.cond (.t 135) (.seq (reg0 [xM 0 136 8, xM 1 2 136] 2) .ret) .skip)))
def ybr7 : UB | _ => .seq (.block 7 (.seq (.seq (reg0 (hid ylqt) 7) (.cond (.t 119) (.seq (reg0 [xC 0 2 27] 1) .ret) .skip)) (hid ybr5))) (reg0 [xM 0 111 7, xc 1 112 .add 111 1, xM 2 7 112] 3)
def ybr8 : UB | _ => .seq (.seq (reg0 (hid ylqr) 5) (.cond (.t 110) .skip (.exit 6))) (hid ybr7)
def ybr9 : UB | _ => .seq (reg0 [xC 0 7 0] 1) (.block 6 (.loop (hid ybr8)))
def ylra : UL | _ => [xM 6 10 141]
def ylrb : UL | _ => xD 0 138 3 1 :: xO 1 139 (.call 47 [.t 138]) :: xM 2 137 139 :: xX 3 140 0 137 :: xX 4 141 1 137 :: xM 5 9 140 :: hid ylra
def ybre : UB | _ => .seq (.seq (reg0 [xC 0 5 0] 1) (.block 2 (.loop (.seq (.seq (reg0 (hid ylqc) 5) (.cond (.t 85) .skip (.exit 2))) (.seq (.block 3 (hid ybqm)) (reg0 [xM 0 86 5, xc 1 87 .add 86 1, xM 2 5 87] 3)))))) (.seq (hid ybr9) (.seq (reg0 (hid ylrb) 7) (.seq (reg0 [xM 0 142 10, xM 1 2 142] 2) .ret)))
def ybrg : UB | _ => .seq (reg0 [xW 0 1 71 0, xC 1 2 0] 2) (.seq (.seq (reg0 (hid ylpt) 32) (.cond (.t 42) (.seq (reg0 [xC 0 2 4] 1) .ret) .skip)) (.seq (hid ybqa) (hid ybre)))
attribute [simp] ylpo ylpp ylpq ylpr ylps ylpt ylpx ylpy ylpz ylq0 ylq1 ylq2 ylq3 ylq4 ybqa ylqc ylqf ylqg ylqh ybqm ylqr ylqs ylqt ylqw ylqx ylr0 ylr1 ybr5 ybr7 ybr8 ybr9 ylra ylrb ybre ybrg
def c_RTxCheck : EB × List QOp × Nat := ((hid ybrg), [(.mov (.t 2))], 143)
theorem k_RTxCheck : cfun Tryz.prog 93 = some c_RTxCheck := by kernel_rfl
theorem drop35t (a b c : EC) : List.drop 35 (a :: (hc hz ++ [b, c])) = [] := by rw [List.drop_eq_nil_iff]; simp [hz]
def AllB (l : List Bra) (i : Nat) : Prop := (l.take i).all brM = true
theorem all_take {l : List Bra} {i : Nat} {b : Bra} (h : l[i]? = some b) (ht : AllB l i) (hb : brM b = true) : AllB l (i + 1) := by
 unfold AllB at *
 rw [List.take_add_one, h, List.all_append, ht]; simp [hb]
def AllI (l : List Inp) (i : Nat) : Prop := (l.take i).all inM = true
theorem alli_take {l : List Inp} {i : Nat} {b : Inp} (h : l[i]? = some b) (ht : AllI l i) (hb : inM b = true) : AllI l (i + 1) := by
 unfold AllI at *
 rw [List.take_add_one, h, List.all_append, ht]; simp [hb]
theorem cnE_bad {l : List Bra} {i : Nat} {b : Bra} (h : l[i]? = some b) (hb : brM b = false) : cnE l = 1 := by
 refine if_neg ?_
 rintro ⟨_, h2⟩
 have := (List.all_eq_true.1 h2) b (List.mgE h)
 rw [hb] at this
 simp at this
theorem RCCheck_ok (l : List Bra) (hl : ∀ h ∈ l, h.ok) (hn : l.length ≤ 100000000) : ECalls Tryz.prog 136 [CNv l] [] fun y H' => H' = [] ∧ y = I .i64 (cnE l) := by
 refine ecalls k_RCCheck ?_
 simp [c_RCCheck, CNv, I]
 by_cases c1 : l.length < 1
 ·have c1' : (l.length : Int) < 1 := by omega
  have d1 : ¬ 1 ≤ l.length := by omega
  have d1' : ¬ (1 : Int) ≤ (l.length : Int) := by omega
  have hv : cnE l = 1 := if_neg (by omega)
  rw [hv]
  simp [c1, c1', d1, d1']
  exact fin0
 have c1' : ¬ (l.length : Int) < 1 := by omega
 have d1 : 1 ≤ l.length := by omega
 have d1' : (1 : Int) ≤ (l.length : Int) := by omega
 by_cases c2 : 8 < l.length
 ·have c2' : (8 : Int) < (l.length : Int) := by omega
  have d2 : ¬ l.length ≤ 8 := by omega
  have d2' : ¬ (l.length : Int) ≤ 8 := by omega
  have hv : cnE l = 1 := if_neg (by omega)
  rw [hv]
  simp [c1, c1', d1, d1', c2, c2', d2, d2']
  exact fin0
 have c2' : ¬ (8 : Int) < (l.length : Int) := by omega
 have d2 : l.length ≤ 8 := by omega
 have d2' : (l.length : Int) ≤ 8 := by omega
 simp [c1, c1', d1, d1', c2, c2', d2, d2']
 refine eloop (α := Nat) (fun i => i ≤ l.length ∧ AllB l i) (fun i => l.length - i)
  (fun i => [xA, Ptr 0, xA, I .i64 i, xA, xA, xA, xA, xA, xA, xA, xA, xA, xA, xA, xA, xA, xA, xA, xA, xA, xA, xA, xA, xA, xA, xA, xA, xA, xA, xA, xA, xA, xA, xA, xA, xA, xA, xA, xA, xA, xA, xA, xA, xA, xA, xA, xA, xA, xA, xA, xA, xA, xA, xA, xA, xA, xA, xA, xA, xA, xA, xA, xA, xA, xA, xA, xA, xA, xA, xA, xA, xA, xA, xA, xA, xA, xA, xA, .any]) (fun _ => [some (.box 133 [.fz (.sl 35 (brav l))])]) 0 [0]
  ⟨by simp, by simp [AllB]⟩ (by simp [Ptr, I]) (by simp) (by simp) (by simp) (by simp) ?_
 rintro i ⟨hi1, hi2⟩
 simp [Ptr, I]
 refine alt (fun hlt => ?_) (fun hlt => ?_)
 rotate_left
 ·have hil : i = l.length := by omega
  subst hil
  unfold AllB at hi2
  rw [List.take_length] at hi2
  have hv : cnE l = 0 := if_pos ⟨by omega, hi2⟩
  rw [hv]
  simp
  exact fin0
 have hln : i < l.length := by omega
 obtain ⟨b, hcb⟩ : ∃ b, l[i]? = some b := ⟨l[i], by simp [hln]⟩
 have hge : (brav l)[i]'(by simp [hln]) = braF b := gE (brav_get hcb)
 obtain ⟨hk, h1, ha, ho, h4⟩ := hl b (List.mgE hcb)
 have l0 := bc_len h1
 have l1 := bf_len h1
 have tk := bc_take h1
 have e0 := idx_of (bc_0 b) (by omega)
 have e33 := idx_of (bc_33 h1) (by omega)
 have e34 := idx_of (bc_34 h1) (by omega)
 simp [hln, hge, braF_fz, l0, l1, tk, drop35t, e0, e33, e34, iC]
 have hbad : ∀ q : ¬ (1 ≤ b.keys.length ∧ 0 ≤ b.af ∧ b.af ≤ 1099511627776 ∧ 0 ≤ b.ol ∧ b.ol ≤ 65536), cnE l = 1 := fun q => cnE_bad hcb (by unfold brM; rw [decide_eq_false q, Bool.and_false])
 by_cases c3 : b.keys.length < 1
 ·have c3' : (b.keys.length : Int) < 1 := by omega
  have d3 : ¬ 1 ≤ b.keys.length := by omega
  have d3' : ¬ (1 : Int) ≤ (b.keys.length : Int) := by omega
  rw [hbad (by omega)]
  simp [c3, c3', d3, d3']
  exact fin0
 have c3' : ¬ (b.keys.length : Int) < 1 := by omega
 have d3 : 1 ≤ b.keys.length := by omega
 have d3' : (1 : Int) ≤ (b.keys.length : Int) := by omega
 by_cases c4 : b.af < 0
 ·have d4 : ¬ 0 ≤ b.af := by omega
  rw [hbad (by omega)]
  simp [c3, c3', d3, d3', c4, d4, l0, e33, e34, iC]
  exact fin0
 have d4 : 0 ≤ b.af := by omega
 by_cases c5 : 1099511627776 < b.af
 ·have d5 : ¬ b.af ≤ 1099511627776 := by omega
  rw [hbad (by omega)]
  simp [c3, c3', d3, d3', c4, d4, c5, d5, l0, e33, e34, iC]
  exact fin0
 have d5 : b.af ≤ 1099511627776 := by omega
 by_cases c6 : b.ol < 0
 ·have d6 : ¬ 0 ≤ b.ol := by omega
  rw [hbad (by omega)]
  simp [c3, c3', d3, d3', c4, d4, c5, d5, c6, d6, l0, e33, e34, iC]
  exact fin0
 have d6 : 0 ≤ b.ol := by omega
 by_cases c7 : 65536 < b.ol
 ·have d7 : ¬ b.ol ≤ 65536 := by omega
  rw [hbad (by omega)]
  simp [c3, c3', d3, d3', c4, d4, c5, d5, c6, d6, c7, d7, l0, e33, e34, iC]
  exact fin0
 have d7 : b.ol ≤ 65536 := by omega
 simp [c3, c3', d3, d3', c4, d4, c5, d5, c6, d6, c7, d7, l0, e33, e34, iC]
 refine eloop (α := Nat × Int) (fun a => a.1 ≤ b.keys.length ∧ keysS (-1) b.keys = keysS a.2 (b.keys.drop a.1)) (fun a => b.keys.length - a.1)
  (fun a => [xA, Ptr 0, xA, I .i64 i, Ptr 1, I .i64 a.2, I .i64 a.1, xA, xA, xA, xA, xA, xA, xA, xA, xA, xA, xA, xA, xA, xA, xA, xA, xA, xA, xA, xA, xA, xA, xA, xA, xA, xA, xA, xA, xA, xA, xA, xA, xA, xA, xA, xA, xA, xA, xA, xA, xA, xA, xA, xA, xA, xA, xA, xA, xA, xA, xA, xA, xA, xA, xA, xA, xA, xA, xA, xA, xA, xA, xA, xA, xA, xA, xA, xA, xA, xA, xA, xA, .any]) (fun _ => [some (.box 133 [.fz (.sl 35 (brav l))]), some (.box 137 (braC b))]) (0, -1) [0, 161]
  ⟨by simp, by simp⟩ (by simp [Ptr, I]) (by simp) (by simp) (by simp) (by simp) ?_
 rintro ⟨j, last⟩ ⟨hj1, hj2⟩
 dsimp only at hj1 hj2
 simp [Ptr, I, l0, e0]
 refine alt (fun hlt2 => ?_) (fun hlt2 => ?_)
 ·have hjn : j < b.keys.length := by omega
  obtain ⟨k, hck⟩ : ∃ k, b.keys[j]? = some k := ⟨b.keys[j], by simp [hjn]⟩
  have ga : ∀ h2, (intv b.keys)[j]'h2 = [.lit (.int .i64 k)] := fun h2 => by rw [intv_at hjn, hck]; rfl
  rw [drop_cons hck] at hj2
  have w1 : IntKind.i64.wrap ((j : Int) + 1) = ((j + 1 : Nat) : Int) := wrap_i64 (by omega) (by omega)
  have hbk : ¬ (last < k ∧ k < 16) → cnE l = 1 := fun q => cnE_bad hcb (by unfold brM; rw [hj2]; simp only [keysS, decide_eq_false q, Bool.false_and])
  simp [hjn, ga, l0, e0]
  by_cases g1 : k ≤ last
  ·have g1' : ¬ last < k := by omega
   rw [hbk (by omega)]
   simp [g1, g1']
   exact fin0
  have g1' : last < k := by omega
  by_cases g2 : 15 < k
  ·have g2' : ¬ k ≤ 15 := by omega
   rw [hbk (by omega)]
   simp [g1, g1', g2, g2', hjn, ga, l0, e0]
   exact fin0
  have g2' : k ≤ 15 := by omega
  simp [g1, g1', g2, g2', hjn, ga, l0, e0, w1, -Int.natCast_add]
  exact round (j + 1, k) [0, 1] ⟨by dsimp only; omega, by dsimp only; rw [hj2, keysS, decide_eq_true ⟨g1', by omega⟩, Bool.true_and]⟩ (by dsimp only; omega) (by simp [Ptr, I]) (by simp) (by simp) (by simp) (by simp)
 ·have hd : b.keys.drop j = [] := by rw [List.drop_eq_nil_iff]; omega
  have hks : keysS (-1) b.keys = true := by rw [hj2, hd]; rfl
  have hbm : brM b = true := by unfold brM; rw [hks, Bool.true_and]; exact decide_eq_true ⟨d3, d4, d5, d6, d7⟩
  have w1 := wS (i := i) (by omega)
  simp [w1, -Int.natCast_add]
  exact round (i + 1) [0] ⟨by omega, all_take hcb hi2 hbm⟩ (by omega) (by simp [Ptr, I]) (by simp) (by simp) (by simp) (by simp)
theorem RTxTotal_ok (t : Txn) (ht : t.ok) : ECalls Tryz.prog 47 [TXv t] [] fun y H' => H' = [] ∧ y = .tup [.c (iC (totO 0 t.outs).1), .c (iC ((totO 0 t.outs).2 : Int))] := by
 obtain ⟨h1, h2, h3, h4, h5⟩ := ht
 obtain ⟨F, hF⟩ : ∃ F, totO 0 t.outs = F := ⟨_, rfl⟩
 rw [hF]
 refine ecalls k_RTxTotal ?_
 simp [c_RTxTotal, TXv, txC, I, iC]
 refine eloop (α := Nat × Int) (fun a => a.1 ≤ t.outs.length ∧ totO a.2 (t.outs.drop a.1) = F ∧ 0 ≤ a.2 ∧ a.2 ≤ 1125899906842624) (fun a => t.outs.length - a.1)
  (fun a => [xA, Ptr 0, xA, xA, I .i64 a.2, I .i64 a.1, xA, xA, xA, xA, xA, xA, xA, xA, xA, xA, xA, xA, xA, xA, xA, xA, xA, xA, xA, xA, xA, xA, xA, xA, xA, xA, xA, xA, xA, .any]) (fun _ => [some (.box 71 (txC t))]) (0, 0) [0]
  ⟨by simp, by simpa using hF, by simp, by simp⟩ (by simp [I, Ptr]) (by simp [txC, iC]) (by simp) (by simp) (by simp) ?_
 rintro ⟨i, n⟩ ⟨hi1, hi2, hi3, hi4⟩
 dsimp only at hi1 hi2 hi3 hi4
 simp [I, Ptr, txC, iC]
 refine alt (fun hlt => ?_) (fun hlt => ?_)
 ·have hln : i < t.outs.length := by omega
  obtain ⟨p, hc⟩ : ∃ p, t.outs[i]? = some p := ⟨t.outs[i], by simp [hln]⟩
  have hge : (outv t.outs)[i]'(by simp [hln]) = outF p := gE (outv_get hc)
  have hpo := h3 p (List.mgE hc)
  have hpa := hpo.1
  unfold i64 at hpa
  rw [drop_cons hc] at hi2
  have w1 := wS (i := i) (by omega)
  simp [hln, hge, outF, iF]
  by_cases c1 : p.am < 0
  ·have c1' : ¬ 0 ≤ p.am := by omega
   have hv : F = (0, 5) := by rw [← hi2]; exact if_pos (.inl c1)
   rw [hv]
   simp [c1, c1']
   exact fin0
  have c1' : 0 ≤ p.am := by omega
  by_cases c3 : 1125899906842624 < p.am
  ·have c3' : ¬ p.am ≤ 1125899906842624 := by omega
   have hv : F = (0, 5) := by rw [← hi2]; exact if_pos (.inr (by omega))
   rw [hv]
   simp [c1, c1', c3, c3']
   exact fin0
  have c3' : p.am ≤ 1125899906842624 := by omega
  have w3 : IntKind.i64.wrap (n + p.am) = n + p.am := wrap_i64 (by omega) (by omega)
  by_cases c2 : 1125899906842624 < n + p.am
  ·have c2' : ¬ n + p.am ≤ 1125899906842624 := by omega
   have hv : F = (0, 5) := by rw [← hi2]; exact if_pos (.inr (by omega))
   rw [hv]
   simp [c1, c1', c3, c3', w3, c2, c2']
   exact fin0
  have c2' : n + p.am ≤ 1125899906842624 := by omega
  have hn : totO (n + p.am) (t.outs.drop (i + 1)) = F := by rw [← hi2]; exact (if_neg (by omega)).symm
  simp [c1, c1', c3, c3', c2, c2', w3, w1, -Int.natCast_add]
  exact round (i + 1, n + p.am) [0] ⟨by dsimp only; omega, hn, by dsimp only; omega, by dsimp only; omega⟩ (by dsimp only; omega) (by simp [I, Ptr]) (by simp) (by simp) (by simp) (by simp)
 ·have hd : t.outs.drop i = [] := by rw [List.drop_eq_nil_iff]; omega
  rw [hd] at hi2
  rw [← hi2]
  simp
  exact fin0
theorem RTxCheck_ok (t : Txn) (ht : t.ok) : ECalls Tryz.prog 93 [TXv t] [] fun y H' => H' = [] ∧ y = I .i64 (chkT t) := by
 obtain ⟨h1, h2, h3, h4, h5⟩ := id ht
 have hv4 : (t.lk < 0 ∨ 1099511627776 < t.lk ∨ ¬ (1 ≤ t.ins.length ∧ t.ins.length ≤ 64) ∨ ¬ (1 ≤ t.outs.length ∧ t.outs.length ≤ 64) ∨ t.ins.all inM = false) → chkT t = 4 := fun h => if_pos h
 refine ecalls k_RTxCheck ?_
 simp [c_RTxCheck, TXv, txC, I, iC]
 by_cases c1 : t.lk < 0
 ·have c1' : ¬ 0 ≤ t.lk := by omega
  rw [hv4 (.inl c1)]
  simp [c1, c1']
  exact fin0
 have c1' : 0 ≤ t.lk := by omega
 by_cases c2 : 1099511627776 < t.lk
 ·have c2' : ¬ t.lk ≤ 1099511627776 := by omega
  rw [hv4 (.inr (.inl c2))]
  simp [c1, c1', c2, c2']
  exact fin0
 have c2' : t.lk ≤ 1099511627776 := by omega
 by_cases c3 : t.ins.length < 1
 ·have c3' : (t.ins.length : Int) < 1 := by omega
  have d3 : ¬ 1 ≤ t.ins.length := by omega
  have d3' : ¬ (1 : Int) ≤ (t.ins.length : Int) := by omega
  rw [hv4 (.inr (.inr (.inl (by omega))))]
  simp [c1, c1', c2, c2', c3, c3', d3, d3']
  exact fin0
 have c3' : ¬ (t.ins.length : Int) < 1 := by omega
 have d3 : 1 ≤ t.ins.length := by omega
 have d3' : (1 : Int) ≤ (t.ins.length : Int) := by omega
 by_cases c4 : 64 < t.ins.length
 ·have c4' : (64 : Int) < (t.ins.length : Int) := by omega
  have d4 : ¬ t.ins.length ≤ 64 := by omega
  have d4' : ¬ (t.ins.length : Int) ≤ 64 := by omega
  rw [hv4 (.inr (.inr (.inl (by omega))))]
  simp [c1, c1', c2, c2', c3, c3', d3, d3', c4, c4', d4, d4']
  exact fin0
 have c4' : ¬ (64 : Int) < (t.ins.length : Int) := by omega
 have d4 : t.ins.length ≤ 64 := by omega
 have d4' : (t.ins.length : Int) ≤ 64 := by omega
 by_cases c5 : t.outs.length < 1
 ·have c5' : (t.outs.length : Int) < 1 := by omega
  have d5 : ¬ 1 ≤ t.outs.length := by omega
  have d5' : ¬ (1 : Int) ≤ (t.outs.length : Int) := by omega
  rw [hv4 (.inr (.inr (.inr (.inl (by omega)))))]
  simp [c1, c1', c2, c2', c3, c3', d3, d3', c4, c4', d4, d4', c5, c5', d5, d5']
  exact fin0
 have c5' : ¬ (t.outs.length : Int) < 1 := by omega
 have d5 : 1 ≤ t.outs.length := by omega
 have d5' : (1 : Int) ≤ (t.outs.length : Int) := by omega
 by_cases c6 : 64 < t.outs.length
 ·have c6' : (64 : Int) < (t.outs.length : Int) := by omega
  have d6 : ¬ t.outs.length ≤ 64 := by omega
  have d6' : ¬ (t.outs.length : Int) ≤ 64 := by omega
  rw [hv4 (.inr (.inr (.inr (.inl (by omega)))))]
  simp [c1, c1', c2, c2', c3, c3', d3, d3', c4, c4', d4, d4', c5, c5', d5, d5', c6, c6', d6, d6']
  exact fin0
 have c6' : ¬ (64 : Int) < (t.outs.length : Int) := by omega
 have d6 : t.outs.length ≤ 64 := by omega
 have d6' : (t.outs.length : Int) ≤ 64 := by omega
 simp [c1, c1', c2, c2', c3, c3', d3, d3', c4, c4', d4, d4', c5, c5', d5, d5', c6, c6', d6, d6']
 refine eloop (α := Nat) (fun i => i ≤ t.ins.length ∧ AllI t.ins i) (fun i => t.ins.length - i)
  (fun i => [xA, Ptr 0, xA, I .i64 i, xA, xA, xA, xA, xA, xA, xA, xA, xA, xA, xA, xA, xA, xA, xA, xA, xA, xA, xA, xA, xA, xA, xA, xA, xA, xA, xA, xA, xA, xA, xA, xA, xA, xA, xA, xA, xA, xA, xA, xA, xA, xA, xA, xA, xA, xA, xA, xA, xA, xA, xA, xA, xA, xA, xA, xA, xA, xA, xA, xA, xA, xA, xA, xA, xA, xA, xA, xA, xA, xA, xA, xA, xA, xA, xA, xA, xA, xA, xA, xA, xA, xA, xA, xA, xA, xA, xA, xA, xA, xA, xA, xA, xA, xA, xA, xA, xA, xA, xA, xA, xA, xA, xA, xA, xA, xA, xA, xA, xA, xA, xA, xA, xA, xA, xA, xA, xA, xA, xA, xA, xA, xA, xA, xA, xA, xA, xA, xA, xA, xA, xA, xA, xA, xA, xA, xA, xA, xA, .any]) (fun _ => [some (.box 71 (txC t))]) 0 [0]
  ⟨by simp, by simp [AllI]⟩ (by simp [Ptr, I]) (by simp [txC, iC]) (by simp) (by simp) (by simp) ?_
 rintro i ⟨hi1, hi2⟩
 simp [Ptr, I, txC, iC]
 refine alt (fun hlt => ?_) (fun hlt => ?_)
 ·have hln : i < t.ins.length := by omega
  obtain ⟨p, hcp⟩ : ∃ p, t.ins[i]? = some p := ⟨t.ins[i], by simp [hln]⟩
  have hge : (inpv t.ins)[i]'(by simp [hln]) = inpF p := gE (inpv_get hcp)
  have hpo := h2 p (List.mgE hcp)
  have l0 := ic_len hpo.1
  have l1 := if_len hpo.1
  have tk := ic_take hpo.1
  have e32 := idx_of (ic_32 hpo.1) (by omega)
  have e33 := idx_of (ic_33 hpo.1) (by omega)
  have e34 := idx_of (ic_34 hpo.1) (by omega)
  have w1 := wS (i := i) (by omega)
  have hb : (bsv p.sec).length = p.sec.length := by simp
  have hbad : ¬ (0 ≤ p.n ∧ p.n < 64 ∧ 0 ≤ p.br ∧ p.br < 8 ∧ p.sec.length ≤ 64) → chkT t = 4 := fun q => hv4 (.inr (.inr (.inr (.inr (by rw [List.all_eq_false]; exact ⟨p, List.mgE hcp, by unfold inM; rw [decide_eq_false q]; simp⟩)))))
  simp [hln, hge, inpF_fz, l0, l1, tk, drop35i, e32, e33, e34, iC]
  by_cases g1 : p.n < 0
  ·have g1' : ¬ 0 ≤ p.n := by omega
   rw [hbad (by omega)]
   simp [g1, g1']
   exact fin0
  have g1' : 0 ≤ p.n := by omega
  by_cases g2 : 63 < p.n
  ·have g2' : ¬ p.n ≤ 63 := by omega
   rw [hbad (by omega)]
   simp [g1, g1', g2, g2', l0, e32, e33, e34, iC]
   exact fin0
  have g2' : p.n ≤ 63 := by omega
  by_cases g3 : p.br < 0
  ·have g3' : ¬ 0 ≤ p.br := by omega
   rw [hbad (by omega)]
   simp [g1, g1', g2, g2', g3, g3', l0, e32, e33, e34, iC]
   exact fin0
  have g3' : 0 ≤ p.br := by omega
  by_cases g4 : 7 < p.br
  ·have g4' : ¬ p.br ≤ 7 := by omega
   rw [hbad (by omega)]
   simp [g1, g1', g2, g2', g3, g3', g4, g4', l0, e32, e33, e34, iC]
   exact fin0
  have g4' : p.br ≤ 7 := by omega
  by_cases g5 : 64 < p.sec.length
  ·have g5' : (64 : Int) < (p.sec.length : Int) := by omega
   have k5 : ¬ p.sec.length ≤ 64 := by omega
   have k5' : ¬ (p.sec.length : Int) ≤ 64 := by omega
   rw [hbad (by omega)]
   simp [g1, g1', g2, g2', g3, g3', g4, g4', g5, g5', k5, k5', hb, l0, e32, e33, e34, iC]
   exact fin0
  have g5' : ¬ (64 : Int) < (p.sec.length : Int) := by omega
  have k5 : p.sec.length ≤ 64 := by omega
  have k5' : (p.sec.length : Int) ≤ 64 := by omega
  have hgd : inM p = true := decide_eq_true ⟨by omega, by omega, by omega, by omega, by omega⟩
  simp [g1, g1', g2, g2', g3, g3', g4, g4', g5, g5', k5, k5', hb, l0, e32, e33, e34, iC, w1, -Int.natCast_add]
  exact round (i + 1) [0] ⟨by omega, alli_take hcp hi2 hgd⟩ (by omega) (by simp [Ptr, I]) (by simp) (by simp) (by simp) (by simp)
 have hil : i = t.ins.length := by omega
 subst hil
 unfold AllI at hi2
 rw [List.take_length] at hi2
 have hv9 : chkT t = if ¬ (t.ins.map ptI).Nodup then 9 else if outsE t.outs ≠ 0 then outsE t.outs else (totO 0 t.outs).2 := by
  unfold chkT
  rw [if_neg]
  rintro (h | h | h | h | h)
  ·exact c1 h
  ·exact c2 h
  ·omega
  ·omega
  ·rw [hi2] at h; simp at h
 clear hi1 hlt
 simp
 refine eloop (α := Nat) (fun i => i ≤ t.ins.length ∧ ((t.ins.take i).map ptI).Nodup) (fun i => t.ins.length - i)
  (fun i => [xA, Ptr 0, xA, xA, xA, I .i64 i, xA, xA, xA, xA, xA, xA, xA, xA, xA, xA, xA, xA, xA, xA, xA, xA, xA, xA, xA, xA, xA, xA, xA, xA, xA, xA, xA, xA, xA, xA, xA, xA, xA, xA, xA, xA, xA, xA, xA, xA, xA, xA, xA, xA, xA, xA, xA, xA, xA, xA, xA, xA, xA, xA, xA, xA, xA, xA, xA, xA, xA, xA, xA, xA, xA, xA, xA, xA, xA, xA, xA, xA, xA, xA, xA, xA, xA, xA, xA, xA, xA, xA, xA, xA, xA, xA, xA, xA, xA, xA, xA, xA, xA, xA, xA, xA, xA, xA, xA, xA, xA, xA, xA, xA, xA, xA, xA, xA, xA, xA, xA, xA, xA, xA, xA, xA, xA, xA, xA, xA, xA, xA, xA, xA, xA, xA, xA, xA, xA, xA, xA, xA, xA, xA, xA, xA, .any]) (fun _ => [some (.box 71 (txC t))]) 0 [0]
  ⟨by simp, by simp⟩ (by simp [Ptr, I]) (by simp [txC, iC]) (by simp) (by simp) (by simp) ?_
 rintro i ⟨hi1, hn1⟩
 simp [Ptr, I, txC, iC]
 refine alt (fun hlt => ?_) (fun hlt => ?_)
 ·have hln : i < t.ins.length := by omega
  obtain ⟨p, hcp⟩ : ∃ p, t.ins[i]? = some p := ⟨t.ins[i], by simp [hln]⟩
  have hge : (inpv t.ins)[i]'(by simp [hln]) = inpF p := gE (inpv_get hcp)
  have hpo := h2 p (List.mgE hcp)
  simp
  refine eloop (α := Nat) (fun k => k ≤ i ∧ ∀ (j : Nat) (x : Inp), j < k → t.ins[j]? = some x → ptI p ≠ ptI x) (fun k => i - k)
   (fun k => [xA, Ptr 0, xA, xA, xA, I .i64 i, I .i64 k, xA, xA, xA, xA, xA, xA, xA, xA, xA, xA, xA, xA, xA, xA, xA, xA, xA, xA, xA, xA, xA, xA, xA, xA, xA, xA, xA, xA, xA, xA, xA, xA, xA, xA, xA, xA, xA, xA, xA, xA, xA, xA, xA, xA, xA, xA, xA, xA, xA, xA, xA, xA, xA, xA, xA, xA, xA, xA, xA, xA, xA, xA, xA, xA, xA, xA, xA, xA, xA, xA, xA, xA, xA, xA, xA, xA, xA, xA, xA, xA, xA, xA, xA, xA, xA, xA, xA, xA, xA, xA, xA, xA, xA, xA, xA, xA, xA, xA, xA, xA, xA, xA, xA, xA, xA, xA, xA, xA, xA, xA, xA, xA, xA, xA, xA, xA, xA, xA, xA, xA, xA, xA, xA, xA, xA, xA, xA, xA, xA, xA, xA, xA, xA, xA, xA, .any]) (fun _ => [some (.box 71 (txC t))]) 0 [0]
   ⟨by simp, by intro j x h; omega⟩ (by simp [Ptr, I]) (by simp [txC, iC]) (by simp) (by simp) (by simp) ?_
  rintro k ⟨hk1, hk2⟩
  simp [Ptr, I, txC, iC]
  refine alt (fun hlk => ?_) (fun hlk => ?_)
  ·have hkn : k < t.ins.length := by omega
   obtain ⟨q, hcq⟩ : ∃ q, t.ins[k]? = some q := ⟨t.ins[k], by simp [hkn]⟩
   have hgq : (inpv t.ins)[k]'(by simp [hkn]) = inpF q := gE (inpv_get hcq)
   have hqo := h2 q (List.mgE hcq)
   have lp := ic_len hpo.1
   have lq := ic_len hqo.1
   have fp := if_len hpo.1
   have fq := if_len hqo.1
   have pp := ic_pt hpo.1
   have pq := ic_pt hqo.1
   have kp := litK_pt hpo
   have kq := litK_pt hqo
   have kp' : litK (unrle [(32, .u8), (1, .i64)]) (hc p.tx ++ [EC.fz (FV.lit (Value.int IntKind.i64 p.n))]) = some (ptI p) := kp
   have kq' : litK (unrle [(32, .u8), (1, .i64)]) (hc q.tx ++ [EC.fz (FV.lit (Value.int IntKind.i64 q.n))]) = some (ptI q) := kq
   have w1 : IntKind.i64.wrap ((k : Int) + 1) = ((k + 1 : Nat) : Int) := wrap_i64 (by omega) (by omega)
   simp [hln, hkn, hge, hgq, inpF_fz, lp, lq, fp, fq, pp, pq, iC, kp', kq']
   refine alt (fun he => ?_) (fun he => ?_)
   ·have hnd : ¬ (t.ins.map ptI).Nodup := by
     intro h
     have := (List.pairwise_iff_getElem.1 h) k i (by simp; omega) (by simp; omega) (by omega)
     simp only [List.getElem_map] at this
     have e1 : t.ins[k] = q := by rw [List.getElem?_eq_getElem hkn] at hcq; exact Option.some.inj hcq
     have e2 : t.ins[i] = p := by rw [List.getElem?_eq_getElem hln] at hcp; exact Option.some.inj hcp
     rw [e1, e2] at this
     exact this he.symm
    rw [hv9, if_pos hnd]
    simp
    exact fin0
   ·simp [w1, -Int.natCast_add]
    refine round (k + 1) [0] ⟨by omega, ?_⟩ (by omega) (by simp [Ptr, I]) (by simp) (by simp) (by simp) (by simp)
    intro j x hj hx
    rcases Nat.lt_or_ge j k with g | g
    ·exact hk2 j x g hx
    ·obtain rfl : j = k := by omega
     rw [hcq] at hx
     obtain rfl := Option.some.inj hx
     exact he
  ·have hki : k = i := by omega
   subst hki
   have w1 : IntKind.i64.wrap ((k : Int) + 1) = ((k + 1 : Nat) : Int) := wrap_i64 (by omega) (by omega)
   have hn2 : ((t.ins.take (k + 1)).map ptI).Nodup := by
    rw [take_s hcp, List.map_append, List.map_singleton, List.nodup_append]
    refine ⟨hn1, by simp, ?_⟩
    intro a ha b hb
    simp at hb; subst hb
    obtain ⟨x, hx, rfl⟩ := List.mem_map.1 ha
    obtain ⟨j, hj⟩ := List.getElem?_of_mem hx
    rw [List.getElem?_take] at hj
    split at hj
    ·rename_i hjk
     exact fun e => hk2 j x hjk hj e.symm
    ·simp at hj
   simp [w1, -Int.natCast_add]
   exact round (k + 1) [0] ⟨by omega, by rw [← List.map_take]; exact hn2⟩ (by omega) (by simp [Ptr, I]) (by simp) (by simp) (by simp) (by simp)
 have hil : i = t.ins.length := by omega
 subst hil
 rw [List.take_length] at hn1
 rw [hv9, if_neg (by simpa using hn1)]
 obtain ⟨V, hV⟩ : ∃ V, (if outsE t.outs ≠ 0 then outsE t.outs else (totO 0 t.outs).2) = V := ⟨_, rfl⟩
 rw [hV]
 clear hi1 hlt
 simp
 refine eloop (α := Nat) (fun i => i ≤ t.outs.length ∧ outsE t.outs = outsE (t.outs.drop i)) (fun i => t.outs.length - i)
  (fun i => [xA, Ptr 0, xA, xA, xA, xA, xA, I .i64 i, xA, xA, xA, xA, xA, xA, xA, xA, xA, xA, xA, xA, xA, xA, xA, xA, xA, xA, xA, xA, xA, xA, xA, xA, xA, xA, xA, xA, xA, xA, xA, xA, xA, xA, xA, xA, xA, xA, xA, xA, xA, xA, xA, xA, xA, xA, xA, xA, xA, xA, xA, xA, xA, xA, xA, xA, xA, xA, xA, xA, xA, xA, xA, xA, xA, xA, xA, xA, xA, xA, xA, xA, xA, xA, xA, xA, xA, xA, xA, xA, xA, xA, xA, xA, xA, xA, xA, xA, xA, xA, xA, xA, xA, xA, xA, xA, xA, xA, xA, xA, xA, xA, xA, xA, xA, xA, xA, xA, xA, xA, xA, xA, xA, xA, xA, xA, xA, xA, xA, xA, xA, xA, xA, xA, xA, xA, xA, xA, xA, xA, xA, xA, xA, xA, .any]) (fun _ => [some (.box 71 (txC t))]) 0 [0]
  ⟨by simp, by simp⟩ (by simp [I, Ptr]) (by simp [txC, iC]) (by simp) (by simp) (by simp) ?_
 rintro i ⟨hi1, hi2'⟩
 simp [I, Ptr, txC, iC]
 refine alt (fun hlt => ?_) (fun hlt => ?_)
 ·have hln : i < t.outs.length := by omega
  obtain ⟨p, hcp⟩ : ∃ p, t.outs[i]? = some p := ⟨t.outs[i], by simp [hln]⟩
  have hge : (outv t.outs)[i]'(by simp [hln]) = outF p := gE (outv_get hcp)
  have hpo := h3 p (List.mgE hcp)
  rw [drop_cons hcp] at hi2'
  have w1 := wS (i := i) (by omega)
  have hbad : ouE p ≠ 0 → V = ouE p := fun q => by
   have hn : outsE t.outs = ouE p := by rw [hi2']; exact if_pos q
   rw [← hV, if_pos (by rw [hn]; exact q), hn]
  simp [hln, hge, outF, iF]
  by_cases g1 : p.am < 10
  ·have g1' : ¬ 10 ≤ p.am := by omega
   have hou : ouE p = 27 := if_pos g1
   rw [hbad (by omega), hou]
   simp [g1, g1']
   exact fin0
  have g1' : 10 ≤ p.am := by omega
  by_cases g2 : 1125899906842624 < p.am
  ·have g2' : ¬ p.am ≤ 1125899906842624 := by omega
   have hou : ouE p = 5 := by unfold ouE; rw [if_neg g1, if_pos g2]
   rw [hbad (by omega), hou]
   simp [g1, g1', g2, g2', hln, hge, outF, iF]
   exact fin0
  have g2' : p.am ≤ 1125899906842624 := by omega
  have hou : ouE p = cnE p.cs := by unfold ouE; rw [if_neg g1, if_neg g2]
  simp [g1, g1', g2, g2', hln, hge, outF, iF]
  refine call0 (RCCheck_ok p.cs hpo.2.1 hpo.2.2) (by simp [CNv]) ?_
  rintro y H' ⟨rfl, rfl⟩
  refine ⟨.inl (by simp [I]), le_ok rfl, ?_⟩
  by_cases c7 : cnE p.cs = 0
  ·have hn : outsE t.outs = outsE (t.outs.drop (i + 1)) := by rw [hi2']; exact if_neg (by rw [hou]; simpa using c7)
   simp [I, c7, w1, -Int.natCast_add]
   exact round (i + 1) [0] ⟨by omega, hn⟩ (by omega) (by simp [I, Ptr]) (by simp) (by simp) (by simp) (by simp)
  ·rw [hbad (by rw [hou]; exact c7), hou]
   simp [I, c7]
   exact fin0
 have hil : i = t.outs.length := by omega
 subst hil
 rw [List.drop_length] at hi2'
 have hz0 : outsE t.outs = 0 := hi2'
 rw [show V = (totO 0 t.outs).2 by rw [← hV, if_neg (by simpa using hz0)]]
 simp
 refine call0 (RTxTotal_ok t ht) (by simp [TXv, txC, iC]) ?_
 rintro y H' ⟨rfl, rfl⟩
 refine ⟨.inl (by simp [iC]), le_ok rfl, ?_⟩
 simp [iC]
 exact fin0
def ylri : UL | _ => [xM 0 11 1, xc 1 12 .lss 11 0, xM 2 13 12, yM 3 14 13 false 1, xG 4 15 13 false (.bin .gtr (.t 14) (xK 1)), xP 5 16 13 15]
def ylrm : UL | _ => [xM 0 18 1, xF 1 19 43 2, xQ 2 20 (.iad 2 1 (.t 19) (.t 18)), xL 3 21 20, xE 4 22 21, xC 5 23 0]
def ylro : UL | _ => [xI 0 25 34 21 23, xD 1 26 34 25, xQ 2 8 (.alloc 102 (zU8 ++ [xZ, xZ])), xN 3 (.sto 34 (.t 8) (.t 26))]
def ylrp : UL | _ => [yM 6 33 30 false 6, xG 7 34 30 false (.bin .sub (xK 1125899906842624) (.t 33)), xG 8 35 30 false (.bin .gtr (.t 32) (.t 34)), xP 9 36 30 35]
def ylrq : UL | _ => xF 0 27 33 8 :: xL 1 28 27 :: xc 2 29 .lss 28 0 :: xM 3 30 29 :: yF 4 31 30 false 33 8 :: yL 5 32 30 false 31 :: hid ylrp
def ylrt : UL | _ => [xM 0 38 6, xF 1 39 33 8, xL 2 40 39, xb 3 41 .add 38 40, xM 4 6 41]
def ybrw : UB | _ => .seq (.cond (.t 24) .skip (.exit 0)) (.seq (.block 1 (.seq (reg0 (hid ylro) 4) (.seq (.seq (reg0 (hid ylrq) 10) (.cond (.t 36) (.seq (reg0 [xQ 0 37 (.mki 121 (xK 5)), xC 1 4 0, xM 2 5 37] 3) .ret) .skip)) (reg0 (hid ylrt) 5)))) (reg0 [xc 0 42 .add 23 1, xM 1 23 42] 2))
def ybrx : UB | _ => .seq (reg0 (hid ylrm) 6) (.block 0 (.loop (.seq (reg0 [xb 0 24 .lss 23 22] 1) (hid ybrw))))
def ylry : UL | _ => [xM 6 43 49, xX 7 50 0 43, xX 8 51 1 43, xM 9 9 50, xM 10 10 51]
def ylrz : UL | _ => xM 0 44 1 :: xF 1 45 45 2 :: xQ 2 46 (.iad 2 1 (.t 45) (.t 44)) :: xL 3 47 46 :: xQ 4 48 (.build [xZ, xS, xS] [(2, 1, .t 47)]) :: xO 5 49 (.call 46 [.t 48]) :: hid ylry
def yls3 : UL | _ => [xM 0 55 6, xM 1 56 9, xb 2 57 .sub 55 56, xM 3 4 57, xQ 4 5 (.mov (.k .nilIface))]
def ybs5 : UB | _ => .seq (reg0 [xC 0 6 0] 1) (.seq (hid ybrx) (.seq (reg0 (hid ylrz) 11) (.seq (.seq (reg0 [xM 0 52 10, xQ 1 53 (.eqi true (.t 52))] 2) (.cond (.t 53) (.seq (reg0 [xM 0 54 10, xC 1 4 0, xM 2 5 54] 3) .ret) .skip)) (.seq (reg0 (hid yls3) 5) .ret))))
def ybs6 : UB | _ => .seq (reg0 [xW 0 2 49 0, xC 1 4 0, xQ 2 5 (.mov (.k .nilIface))] 3) (.seq (.seq (reg0 (hid ylri) 6) (.cond (.t 16) (.seq (reg0 [xQ 0 17 (.mki 121 (xK 33)), xC 1 4 0, xM 2 5 17] 3) .ret) .skip)) (hid ybs5))
attribute [simp] ylri ylrm ylro ylrp ylrq ylrt ybrw ybrx ylry ylrz yls3 ybs5 ybs6
def c_SGain : EB × List QOp × Nat := ((hid ybs6), [(.mov (.t 4)), (.mov (.t 5))], 58)
theorem k_SGain : cfun Tryz.prog 17 = some c_SGain := by kernel_rfl
def coiG : Int → List Coi → Option Int
 | n, [] => some n
 | n, c :: r => if c.am < 0 ∨ 1125899906842624 - n < c.am then none else coiG (n + c.am) r
def gaiL (l : List Coi) (o : List Outp) : Int × Nat :=
 match coiG 0 l with
 | none => (0, 5)
 | some n => if (totO 0 o).2 ≠ 0 then (0, (totO 0 o).2) else (n - (totO 0 o).1, 0)
def spG (d : Dea) (side : Int) : Int × Nat := if side = 0 then gaiL d.i0 d.o0 else if side = 1 then gaiL d.i1 d.o1 else (0, 33)
theorem totO_b : ∀ {l : List Outp} {n : Int}, 0 ≤ n → n ≤ 1125899906842624 → 0 ≤ (totO n l).1 ∧ (totO n l).1 ≤ 1125899906842624
 | [], n, h1, h2 => ⟨h1, h2⟩
 | o :: r, n, h1, h2 => by
  unfold totO
  split
  ·simp
  ·exact totO_b (by omega) (by omega)
theorem drop_of {α : Type} {l : List α} {i : Nat} {x : α} (h : l[i]? = some x) : l.drop i = x :: l.drop (i + 1) := by
 obtain ⟨hi, rfl⟩ := List.getElem?_eq_some_iff.1 h
 exact List.drop_eq_getElem_cons hi
theorem gaiL_none {l : List Coi} {o : List Outp} (h : coiG 0 l = none) : gaiL l o = (0, 5) := by simp [gaiL, h]
theorem gaiL_some {l : List Coi} {o : List Outp} {n : Int} (h : coiG 0 l = some n) : gaiL l o = if (totO 0 o).2 ≠ 0 then (0, (totO 0 o).2) else (n - (totO 0 o).1, 0) := by simp [gaiL, h]
def GE (q : Int × Nat) : EV := .tup [.c (iC q.1), .c (.fz (.lit (errV q.2)))]
def RGE (q : Int × Nat) : EV := .tup [.c (iC q.1), .c (iC q.2)]
theorem outs_ok {l : List Outp} (h : ∀ o ∈ l, o.ok) (hn : l.length ≤ 1000) : (Txn.mk 0 [] l).ok := ⟨by simp [i64], by simp, h, by simp, by simp; omega⟩
set_option maxRecDepth 8000 in
theorem SGain_ok (d : Dea) (side : Int) (hd : d.ok) (hs : i64 side) : ECalls Tryz.prog 17 [DV d, I .i64 side] [] fun y H' => H' = [] ∧ y = GE (spG d side) := by
 obtain ⟨hp, hst, hi0, hi1, ho0, ho1, n0, n1, m0, m1, k0, k1⟩ := id hd
 have lp := prmC_len hp.1
 have pG := pmG lp
 have ld := deaC_len hp.1
 have e43 := idx_of (show (deaC d)[43]? = some (.fz (.sl 34 (coiv d.i0))) from pG _ 5) (by omega)
 have e44 := idx_of (show (deaC d)[44]? = some (.fz (.sl 34 (coiv d.i1))) from pG _ 6) (by omega)
 have e45 := idx_of (show (deaC d)[45]? = some (.fz (.sl 2 (outv d.o0))) from pG _ 7) (by omega)
 have e46 := idx_of (show (deaC d)[46]? = some (.fz (.sl 2 (outv d.o1))) from pG _ 8) (by omega)
 refine ecalls k_SGain ?_
 by_cases c0 : side = 0
 ·subst c0
  have e : spG d 0 = gaiL d.i0 d.o0 := by simp [spG]
  rw [e]
  simp [c_SGain, DV, I, ld, e43, e44, e45, e46, -errV_0]
  refine eloop (α := Nat × Int) (fun a => a.1 ≤ d.i0.length ∧ coiG 0 d.i0 = coiG a.2 (d.i0.drop a.1) ∧ 0 ≤ a.2 ∧ a.2 ≤ 1125899906842624) (fun a => d.i0.length - a.1)
   (fun a => [xA, I .i64 0, Ptr 0, xA, xA, xA, I .i64 a.2, xA, xA, xA, xA, xA, xA, xA, xA, xA, xA, xA, xA, xA, xA, .v (.c (.fz (.sl 34 (coiv d.i0)))), I .i64 d.i0.length, I .i64 a.1, xA, xA, xA, xA, xA, xA, xA, xA, xA, xA, xA, xA, xA, xA, xA, xA, xA, xA, xA, xA, xA, xA, xA, xA, xA, xA, xA, xA, xA, xA, xA, xA, xA, .any]) (fun _ => [some (.box 49 (deaC d))]) (0, 0) [0]
   ⟨Nat.zero_le _, by simp, by simp, by simp⟩ (by simp [I, Ptr]) (by simp) (by simp) (by simp) (by simp) ?_
  rintro ⟨k, n⟩ ⟨hk, hg, hn0, hn1⟩
  dsimp only at hk hg hn0 hn1
  simp [I, Ptr, -errV_0]
  refine alt (fun hlt => ?_) (fun hlt => ?_)
  ·have hln : k < d.i0.length := by omega
   obtain ⟨c, hcc⟩ : ∃ c, d.i0[k]? = some c := ⟨d.i0[k], by simp [hln]⟩
   have hge : (coiv d.i0)[k]'(by simp [hln]) = coiF c := gE (coiv_get hcc)
   have hco := hi0 c (List.mgE hcc)
   have hfl := coiF_len hco.1
   have hcl := coiC_len hco.1
   have htk := coi_take hco.1
   have cam := idx_of (coi_am hco.1) (by omega)
   have hdr : List.drop 34 (coiC c) = [] := List.drop_of_length_le (by omega)
   have w4 : IntKind.i64.wrap ((k : Int) + 1) = ((k + 1 : Nat) : Int) := wrap_i64 (by omega) (by omega)
   have w5 : IntKind.i64.wrap (1125899906842624 - n) = 1125899906842624 - n := wrap_i64 (by omega) (by omega)
   have hgs : coiG n (c :: d.i0.drop (k + 1)) = if c.am < 0 ∨ 1125899906842624 - n < c.am then none else coiG (n + c.am) (d.i0.drop (k + 1)) := rfl
   rw [drop_of hcc, hgs] at hg
   have hz : List.drop 34 (hc hz ++ [.fz (.lit (.int .i64 0)), .fz (.lit (.int .i64 0))]) = [] := rfl
   by_cases ca : c.am < 0
   ·rw [if_pos (.inl ca)] at hg
    have e2 : gaiL d.i0 d.o0 = (0, 5) := gaiL_none hg
    simp [hln, hge, hfl, coiF_fz, htk, hcl, hz, cam, iC, ca, e2, -errV_0]
    exact fin0
   by_cases cb : 1125899906842624 - n < c.am
   ·rw [if_pos (.inr cb)] at hg
    have e2 : gaiL d.i0 d.o0 = (0, 5) := gaiL_none hg
    have ca' : 0 ≤ c.am := by omega
    simp [hln, hge, hfl, coiF_fz, htk, hcl, hz, cam, iC, ca, ca', cb, w5, e2, -errV_0]
    exact fin0
   rw [if_neg (by omega)] at hg
   have w6 : IntKind.i64.wrap (n + c.am) = n + c.am := wrap_i64 (by omega) (by omega)
   have ca' : 0 ≤ c.am := by omega
   simp [hln, hge, hfl, coiF_fz, htk, hcl, hz, cam, iC, ca, ca', cb, w4, w5, w6, -errV_0, -Int.natCast_add]
   exact round (k + 1, n + c.am) [0] ⟨by dsimp only; omega, hg, by dsimp only; omega, by dsimp only; omega⟩ (by dsimp only; omega) (by simp [I, Ptr, -Int.natCast_add]) (by simp) (by simp) (by simp) (by simp)
  have hil : k = d.i0.length := by omega
  subst hil
  rw [List.drop_length, show coiG n [] = some n from rfl] at hg
  simp [ld, e43, e44, e45, e46, -errV_0]
  have hT := ecalls_nlR (cs := txC (Txn.mk 0 [] d.o0)) (cs' := [iC 0, .fz (.lit (.slice none 0 0)), .fz (.sl 2 (outv d.o0))]) ⟨.inl rfl, .inr ⟨rfl, _, rfl⟩, .inl rfl, trivial⟩ (TxTotal_ok (Txn.mk 0 [] d.o0) (outs_ok ho0 m0))
  refine call0 hT (by simp [iC]) ?_
  rintro y H' ⟨rfl, rfl⟩
  refine ⟨.inl (by simp [iC]), le_ok rfl, ?_⟩
  obtain ⟨t0, t1⟩ := totO_b (l := d.o0) (n := 0) (by omega) (by omega)
  by_cases ct : (totO 0 d.o0).2 = 0
  ·have e2 : gaiL d.i0 d.o0 = (n - (totO 0 d.o0).1, 0) := by rw [gaiL_some hg, if_neg (by simpa using ct)]
   have w7 : IntKind.i64.wrap (n - (totO 0 d.o0).1) = n - (totO 0 d.o0).1 := wrap_i64 (by omega) (by omega)
   simp [iC, ct, e2, w7, -errV_0]
   exact fin0
  ·have e2 : gaiL d.i0 d.o0 = (0, (totO 0 d.o0).2) := by rw [gaiL_some hg, if_pos ct]
   simp [iC, ct, e2, -errV_0]
   exact fin0
 by_cases c1 : side = 1
 ·subst c1
  have e : spG d 1 = gaiL d.i1 d.o1 := by simp [spG]
  rw [e]
  simp [c_SGain, DV, I, ld, e43, e44, e45, e46, -errV_0]
  refine eloop (α := Nat × Int) (fun a => a.1 ≤ d.i1.length ∧ coiG 0 d.i1 = coiG a.2 (d.i1.drop a.1) ∧ 0 ≤ a.2 ∧ a.2 ≤ 1125899906842624) (fun a => d.i1.length - a.1)
   (fun a => [xA, I .i64 1, Ptr 0, xA, xA, xA, I .i64 a.2, xA, xA, xA, xA, xA, xA, xA, xA, xA, xA, xA, xA, xA, xA, .v (.c (.fz (.sl 34 (coiv d.i1)))), I .i64 d.i1.length, I .i64 a.1, xA, xA, xA, xA, xA, xA, xA, xA, xA, xA, xA, xA, xA, xA, xA, xA, xA, xA, xA, xA, xA, xA, xA, xA, xA, xA, xA, xA, xA, xA, xA, xA, xA, .any]) (fun _ => [some (.box 49 (deaC d))]) (0, 0) [0]
   ⟨Nat.zero_le _, by simp, by simp, by simp⟩ (by simp [I, Ptr]) (by simp) (by simp) (by simp) (by simp) ?_
  rintro ⟨k, n⟩ ⟨hk, hg, hn0, hn1⟩
  dsimp only at hk hg hn0 hn1
  simp [I, Ptr, -errV_0]
  refine alt (fun hlt => ?_) (fun hlt => ?_)
  ·have hln : k < d.i1.length := by omega
   obtain ⟨c, hcc⟩ : ∃ c, d.i1[k]? = some c := ⟨d.i1[k], by simp [hln]⟩
   have hge : (coiv d.i1)[k]'(by simp [hln]) = coiF c := gE (coiv_get hcc)
   have hco := hi1 c (List.mgE hcc)
   have hfl := coiF_len hco.1
   have hcl := coiC_len hco.1
   have htk := coi_take hco.1
   have cam := idx_of (coi_am hco.1) (by omega)
   have hdr : List.drop 34 (coiC c) = [] := List.drop_of_length_le (by omega)
   have w4 : IntKind.i64.wrap ((k : Int) + 1) = ((k + 1 : Nat) : Int) := wrap_i64 (by omega) (by omega)
   have w5 : IntKind.i64.wrap (1125899906842624 - n) = 1125899906842624 - n := wrap_i64 (by omega) (by omega)
   have hgs : coiG n (c :: d.i1.drop (k + 1)) = if c.am < 0 ∨ 1125899906842624 - n < c.am then none else coiG (n + c.am) (d.i1.drop (k + 1)) := rfl
   rw [drop_of hcc, hgs] at hg
   have hz : List.drop 34 (hc hz ++ [.fz (.lit (.int .i64 0)), .fz (.lit (.int .i64 0))]) = [] := rfl
   by_cases ca : c.am < 0
   ·rw [if_pos (.inl ca)] at hg
    have e2 : gaiL d.i1 d.o1 = (0, 5) := gaiL_none hg
    simp [hln, hge, hfl, coiF_fz, htk, hcl, hz, cam, iC, ca, e2, -errV_0]
    exact fin0
   by_cases cb : 1125899906842624 - n < c.am
   ·rw [if_pos (.inr cb)] at hg
    have e2 : gaiL d.i1 d.o1 = (0, 5) := gaiL_none hg
    have ca' : 0 ≤ c.am := by omega
    simp [hln, hge, hfl, coiF_fz, htk, hcl, hz, cam, iC, ca, ca', cb, w5, e2, -errV_0]
    exact fin0
   rw [if_neg (by omega)] at hg
   have w6 : IntKind.i64.wrap (n + c.am) = n + c.am := wrap_i64 (by omega) (by omega)
   have ca' : 0 ≤ c.am := by omega
   simp [hln, hge, hfl, coiF_fz, htk, hcl, hz, cam, iC, ca, ca', cb, w4, w5, w6, -errV_0, -Int.natCast_add]
   exact round (k + 1, n + c.am) [0] ⟨by dsimp only; omega, hg, by dsimp only; omega, by dsimp only; omega⟩ (by dsimp only; omega) (by simp [I, Ptr, -Int.natCast_add]) (by simp) (by simp) (by simp) (by simp)
  have hil : k = d.i1.length := by omega
  subst hil
  rw [List.drop_length, show coiG n [] = some n from rfl] at hg
  simp [ld, e43, e44, e45, e46, -errV_0]
  have hT := ecalls_nlR (cs := txC (Txn.mk 0 [] d.o1)) (cs' := [iC 0, .fz (.lit (.slice none 0 0)), .fz (.sl 2 (outv d.o1))]) ⟨.inl rfl, .inr ⟨rfl, _, rfl⟩, .inl rfl, trivial⟩ (TxTotal_ok (Txn.mk 0 [] d.o1) (outs_ok ho1 m1))
  refine call0 hT (by simp [iC]) ?_
  rintro y H' ⟨rfl, rfl⟩
  refine ⟨.inl (by simp [iC]), le_ok rfl, ?_⟩
  obtain ⟨t0, t1⟩ := totO_b (l := d.o1) (n := 0) (by omega) (by omega)
  by_cases ct : (totO 0 d.o1).2 = 0
  ·have e2 : gaiL d.i1 d.o1 = (n - (totO 0 d.o1).1, 0) := by rw [gaiL_some hg, if_neg (by simpa using ct)]
   have w7 : IntKind.i64.wrap (n - (totO 0 d.o1).1) = n - (totO 0 d.o1).1 := wrap_i64 (by omega) (by omega)
   simp [iC, ct, e2, w7, -errV_0]
   exact fin0
  ·have e2 : gaiL d.i1 d.o1 = (0, (totO 0 d.o1).2) := by rw [gaiL_some hg, if_pos ct]
   simp [iC, ct, e2, -errV_0]
   exact fin0
 have e : spG d side = (0, 33) := by simp [spG, c0, c1]
 rw [e]
 by_cases c2 : side < 0
 ·simp [c_SGain, DV, I, ld, c2, -errV_0]
  exact fin0
 ·have c3 : 1 < side := by omega
  simp [c_SGain, DV, I, ld, c2, c3, -errV_0]
  exact fin0
def Bra.sm (b : Bra) : Prop := b.lock.length = 32 ∧ b.keys.length ≤ 1000
def Outp.sm (o : Outp) : Prop := (∀ b ∈ o.cs, b.sm) ∧ o.cs.length ≤ 100
def Inp.sm (x : Inp) : Prop := x.tx.length = 32 ∧ x.sec.length ≤ 10000
def Txn.sm (t : Txn) : Prop := (∀ x ∈ t.ins, x.sm) ∧ (∀ o ∈ t.outs, o.sm) ∧ t.ins.length ≤ 400 ∧ t.outs.length ≤ 400
theorem braB_le {b : Bra} (h : b.sm) : (braB b).length ≤ 9100 := by
 have h1 := uB_len (b.keys.length : Int)
 have h2 := usB_len b.keys
 have h3 := uB_len b.af
 have h4 := uB_len b.ol
 obtain ⟨q1, q2⟩ := h
 simp only [braB, List.length_append]
 omega
theorem cndB_le {l : List Bra} (h : ∀ b ∈ l, b.sm) (hn : l.length ≤ 100) : (cndB l).length ≤ 920000 := by
 have h1 := uB_len (l.length : Int)
 have h2 : (brsB l).length ≤ 9100 * l.length := flat_len fun b hb => braB_le (h b hb)
 simp only [cndB, List.length_append]
 omega
theorem oupB_le {o : Outp} (h : o.sm) : (oupB o).length ≤ 930000 := by
 have h1 := uB_len o.am
 have h2 := cndB_le h.1 h.2
 simp only [oupB, List.length_append]
 omega
theorem inpB_le {x : Inp} (h : x.sm) : (inpB x).length ≤ 20100 := by
 have h1 := uB_len x.n
 have h2 := uB_len x.br
 have h3 := stuff_len x.sec
 obtain ⟨q1, q2⟩ := h
 simp only [inpB, bytesB, List.length_append, List.length_cons, List.length_nil]
 omega
theorem encT_le {t : Txn} (h : t.sm) : (encT t).length ≤ 400000000 := by
 obtain ⟨q1, q2, q3, q4⟩ := h
 have h1 := uB_len t.lk
 have h2 := uB_len (t.ins.length : Int)
 have h3 := uB_len (t.outs.length : Int)
 have h4 : (insB t.ins).length ≤ 20100 * t.ins.length := flat_len fun x hx => inpB_le (q1 x hx)
 have h5 : (ousB t.outs).length ≤ 930000 * t.outs.length := flat_len fun x hx => oupB_le (q2 x hx)
 simp only [encT, mdB, hdB, List.length_append]
 omega
theorem sm_sec {t : Txn} (h : t.sm) : ∀ x ∈ t.ins, x.sec.length ≤ 10000000 := fun x hx => by have := (h.1 x hx).2; omega
theorem keysS_ris : ∀ {l : List Int} {o : Int}, keysS o l = true → RisI l ∧ ((l.length : Int) ≤ 15 - o ∨ l = []) ∧ ∀ k, l[0]? = some k → o < k
 | [], o, _ => ⟨by intro i a b h; simp at h, .inr rfl, by intro k h; simp at h⟩
 | a :: r, o, h => by
  simp only [keysS, Bool.and_eq_true, decide_eq_true_eq] at h
  obtain ⟨h1, h2, h3⟩ := keysS_ris h.2
  refine ⟨?_, .inl ?_, ?_⟩
  ·intro i x y hx hy
   cases i with
   | zero =>
    simp at hx
    subst hx
    exact h3 y (by simpa using hy)
   | succ i => exact h1 i x y (by simpa using hx) (by simpa using hy)
  ·rcases h2 with h2 | h2
   ·simp; omega
   ·subst h2; simp; omega
  ·intro k hk
   simp at hk; omega
theorem outsE_mem : ∀ {l : List Outp}, outsE l = 0 → ∀ o ∈ l, cnE o.cs = 0
 | [], _, o, ho => by simp at ho
 | x :: r, h, o, ho => by
  unfold outsE at h
  split at h
  ·rename_i c; exact absurd h c
  rename_i c
  rcases List.mem_cons.1 ho with rfl | ho
  ·have c := Classical.not_not.1 c
   unfold ouE at c
   split at c
   ·simp at c
   split at c
   ·simp at c
   exact c
  ·exact outsE_mem h o ho
theorem sm_of_chk {t : Txn} (ht : t.ok) (h : chkT t = 0) : t.sm := by
 obtain ⟨h1, h2, h3, h4, h5⟩ := ht
 unfold chkT at h
 split at h
 ·simp at h
 rename_i c1
 split at h
 ·simp at h
 split at h
 ·rename_i c; exact absurd h c
 rename_i c2
 have c2 := Classical.not_not.1 c2
 have hi : t.ins.all inM = true := by
  cases q : t.ins.all inM
  ·exact absurd (.inr (.inr (.inr (.inr q)))) c1
  ·rfl
 have hn1 : t.ins.length ≤ 64 := by omega
 have hn2 : t.outs.length ≤ 64 := by omega
 refine ⟨?_, ?_, by omega, by omega⟩
 ·intro x hx
  have := List.all_eq_true.1 hi x hx
  simp only [inM, decide_eq_true_eq] at this
  exact ⟨(h2 x hx).1, by omega⟩
 ·intro o ho
  have q := outsE_mem c2 o ho
  unfold cnE at q
  split at q
  rotate_left
  ·simp at q
  rename_i c
  refine ⟨?_, by omega⟩
  intro b hb
  have := List.all_eq_true.1 c.2 b hb
  simp only [brM, Bool.and_eq_true] at this
  obtain ⟨_, r2, _⟩ := keysS_ris this.1
  refine ⟨((h3 o ho).2.1 b hb).2.1, ?_⟩
  rcases r2 with r2 | r2
  ·omega
  ·rw [r2]; simp
def yls8 : UL | _ => [xb 6 11 .add 7 10, xM 7 3 11]
def yls9 : UL | _ => xF 0 5 3 1 :: xL 1 6 5 :: xE 2 7 6 :: xF 3 8 4 1 :: xL 4 9 8 :: xE 5 10 9 :: hid yls8
def ylse : UL | _ => [xM 0 14 4, xF 1 15 4 1, xL 2 16 15, xE 3 17 16, xb 4 18 .lss 14 17]
def ylsf : UL | _ => [xL 6 27 26, xE 7 28 27, xb 8 29 .add 21 28, xM 9 3 29]
def ylsg : UL | _ => xM 0 21 3 :: xF 1 22 4 1 :: xL 2 23 22 :: xM 3 24 4 :: xI 4 25 3 23 24 :: xF 5 26 2 25 :: hid ylsf
def ybsk : UB | _ => .seq (reg0 [xC 0 4 0] 1) (.block 0 (.loop (.seq (.seq (reg0 (hid ylse) 5) (.cond (.t 18) .skip (.exit 0))) (.seq (.block 1 (reg0 (hid ylsg) 10)) (reg0 [xM 0 19 4, xc 1 20 .add 19 1, xM 2 4 20] 3)))))
def ybsm : UB | _ => .seq (.seq (reg0 [xM 0 12 3, xc 1 13 .gtr 12 100] 2) (.cond (.t 13) (.seq (reg0 [xQ 0 2 (.mov (.k (.bool true)))] 1) .ret) .skip)) (.seq (hid ybsk) (.seq (reg0 [xM 0 30 3, xc 1 31 .gtr 30 300, xM 2 2 31] 3) .ret))
def ybsn : UB | _ => .seq (reg0 [xW 0 1 32 0, xQ 1 2 (.mov (.k (.bool false)))] 2) (.seq (reg0 (hid yls9) 8) (hid ybsm))
attribute [simp] yls8 yls9 ylse ylsf ylsg ybsk ybsm ybsn
def c_longState : EB × List QOp × Nat := ((hid ybsn), [(.mov (.t 2))], 32)
theorem k_longState : cfun Tryz.prog 6 = some c_longState := by kernel_rfl
def sumK (l : List Hol) : Nat := (l.map (·.keys.length)).sum
theorem sumK_snoc (l : List Hol) (h : Hol) : sumK (l ++ [h]) = sumK l + h.keys.length := by simp [sumK]
theorem sumK_le : ∀ {l : List Hol}, (∀ h ∈ l, h.keys.length ≤ 100000000) → sumK l ≤ 100000000 * l.length
 | [], _ => by simp [sumK]
 | h :: r, q => by
  have h1 := q h (by simp)
  have h2 := sumK_le (l := r) (fun y hy => q y (by simp [hy]))
  simp [sumK] at *; omega
theorem sumK_mem : ∀ {l : List Hol} {h : Hol}, h ∈ l → h.keys.length ≤ sumK l
 | x :: r, h, q => by
  rcases List.mem_cons.1 q with rfl | q
  ·simp [sumK]
  ·have := sumK_mem q
   simp [sumK] at *; omega
def longS (s : Sta) : Bool := decide (100 < s.pays.length + s.holds.length ∨ 300 < s.pays.length + s.holds.length + sumK s.holds)
theorem longS_small {s : Sta} (h : longS s = false) : s.small ∧ s.pays.length ≤ 100 ∧ s.holds.length ≤ 100 ∧ ∀ h ∈ s.holds, h.keys.length ≤ 300 := by
 have h' := of_decide_eq_false h
 refine ⟨⟨by omega, by omega, fun x hx => ?_⟩, by omega, by omega, fun x hx => ?_⟩ <;>
 ·have := sumK_mem hx
  omega
theorem longState_ok (s : Sta) (hs : s.ok) : ECalls Tryz.prog 6 [SV s] [] fun y H' => H' = [] ∧ y = .lit (.bool (longS s)) := by
 obtain ⟨ok1, ok2, ok3, ok4, ok5, ok6, ok7⟩ := id hs
 have w0 : IntKind.i64.wrap ((s.pays.length : Int) + (s.holds.length : Int)) = ((s.pays.length + s.holds.length : Nat) : Int) := by rw [wrap_i64 (by omega) (by omega)]; simp
 refine ecalls k_longState ?_
 simp [c_longState, SV, staC, w0, -Int.natCast_add]
 refine alt (fun hlt => ?_) (fun hlt => ?_)
 ·simp
  have : longS s = true := by unfold longS; exact decide_eq_true (.inl (by omega))
  exact fin [] (by decide) rfl rfl rfl ⟨rfl, by simp [this]⟩
 simp [-Int.natCast_add]
 refine eloop (α := Nat) (fun i => i ≤ s.holds.length) (fun i => s.holds.length - i)
  (fun i => [xA, Ptr 0, xA, I .i64 ((s.pays.length + s.holds.length + sumK (s.holds.take i) : Nat) : Int), I .i64 i, xA, xA, xA, xA, xA, xA, xA, xA, xA, xA, xA, xA, xA, xA, xA, xA, xA, xA, xA, xA, xA, xA, xA, xA, xA, xA, .any]) (fun i => [some (.box 32 (staC s))]) 0 [0]
  (Nat.zero_le _) (by simp [Ptr, I, sumK]) (by simp [staC]) (by simp) (by simp) (by simp) ?_
 intro i hi
 have hlk := sumK_le (l := s.holds.take i) (fun h hh => (ok5 h (List.mem_of_mem_take hh)).2.2.2)
 have hlt' : (s.holds.take i).length = i := by simp; omega
 simp [Ptr, I, staC, -Int.natCast_add]
 refine alt (fun hlt => ?_) (fun hlt => ?_)
 ·obtain ⟨p, hc⟩ : ∃ p, s.holds[i]? = some p := ⟨s.holds[i], by simp [hlt]⟩
  have hcb := holv_get hc
  have hk := (ok5 p (List.mgE hc)).2.2.2
  have hts : sumK (s.holds.take (i + 1)) = sumK (s.holds.take i) + p.keys.length := by rw [take_s hc, sumK_snoc]
  have w2 := wS (i := i) (by omega)
  have w3 : IntKind.i64.wrap (((s.pays.length + s.holds.length + sumK (s.holds.take i) : Nat) : Int) + (p.keys.length : Int)) = ((s.pays.length + s.holds.length + sumK (s.holds.take (i + 1)) : Nat) : Int) := by
   rw [wrap_i64 (by omega) (by omega), hts]; simp; omega
  simp [hcb, holF, w2, w3, -Int.natCast_add]
  exact round (i + 1) [0] (by omega) (by omega) (by simp) (by simp) (by simp) (by simp) (by simp)
 have hil : i = s.holds.length := by omega
 subst hil
 rw [List.take_length] at *
 simp [-Int.natCast_add]
 exact fin [] (by decide) rfl rfl rfl ⟨rfl, by
  have : longS s = decide (300 < ((s.pays.length + s.holds.length + sumK s.holds : Nat) : Int)) := decide_eq_decide.2 (by omega)
  simp [this]⟩
def ylsp : UL | _ => [xN 6 (.fz (.sto 5 (.t 3) (.t 11)))]
def ylsq : UL | _ => xF 0 7 0 1 :: xL 1 8 7 :: xF 2 9 1 1 :: xD 3 10 2 9 :: xQ 4 11 (.build [xZ, xZ, xZ, xS, xS] [(0, 1, .t 8), (1, 2, .t 10)]) :: xQ 5 3 (.alloc 42 [xZ, xZ, xZ, xS, xS]) :: hid ylsp
def ylss : UL | _ => [xM 0 12 4, xF 1 13 3 1, xL 2 14 13, xE 3 15 14, xb 4 16 .lss 12 15]
def ylst : UL | _ => [xD 6 25 36 24, xQ 7 26 (.bsl 36 (([xZ, xZ, xZ, xZ] : List Value) ++ zU8) 1 [(0, .t 25)]), xO 8 27 (.app 117 36 64 (.t 20) (.t 26)), xF 9 28 3 3, xN 10 (.fz (.sto 1 (.t 28) (.t 27)))]
def ylsu : UL | _ => xF 0 19 3 3 :: xL 1 20 19 :: xF 2 21 3 1 :: xL 3 22 21 :: xM 4 23 4 :: xI 5 24 36 22 23 :: hid ylst
def ylt0 : UL | _ => [xM 0 29 5, xF 1 30 4 1, xL 2 31 30, xE 3 32 31, xb 4 33 .lss 29 32]
def ylt2 : UL | _ => [xO 24 60 (.app 119 3 40 (.t 37) (.t 59)), xF 25 61 4 3, xN 26 (.fz (.sto 1 (.t 61) (.t 60)))]
def ylt3 : UL | _ => xI 18 54 3 52 53 :: xF 19 55 2 54 :: xL 20 56 55 :: ⟨21, (some 57), none, (.app 3 1 8 (.t 50) (.t 56)), [0, 1, 2, 3, 4, 5, 6, 7, 8, 9, 10, 11, 12, 13]⟩ :: xQ 22 58 (.build [xZ, xZ, xS] [(0, 1, .t 43), (1, 1, .t 49), (2, 1, .t 57)]) :: ⟨23, (some 59), none, (.fz (.q (.bsl 3 [xZ, xZ, xS] 1 [(0, .t 58)]))), [0, 1]⟩ :: hid ylt2
def ylt4 : UL | _ => xF 12 48 1 47 :: xL 13 49 48 :: xM 14 50 6 :: xF 15 51 4 1 :: xL 16 52 51 :: xM 17 53 5 :: hid ylt3
def ylt5 : UL | _ => xF 6 42 0 41 :: xL 7 43 42 :: xF 8 44 4 1 :: xL 9 45 44 :: xM 10 46 5 :: xI 11 47 3 45 46 :: hid ylt4
def ylt6 : UL | _ => xF 0 36 4 3 :: xL 1 37 36 :: xF 2 38 4 1 :: xL 3 39 38 :: xM 4 40 5 :: xI 5 41 3 39 40 :: hid ylt5
def ybta : UB | _ => .seq (reg0 [xC 0 5 0] 1) (.block 2 (.loop (.seq (.seq (reg0 (hid ylt0) 5) (.cond (.t 33) .skip (.exit 2))) (.seq (.block 3 (.seq (reg0 [xQ 0 6 (.mov (.k xS))] 1) (reg1 (hid ylt6) 27))) (reg0 [xM 0 34 5, xc 1 35 .add 34 1, xM 2 5 35] 3)))))
def ybtc : UB | _ => .seq (.seq (reg0 [xC 0 4 0] 1) (.block 0 (.loop (.seq (.seq (reg0 (hid ylss) 5) (.cond (.t 16) .skip (.exit 0))) (.seq (.block 1 (reg0 (hid ylsu) 11)) (reg0 [xM 0 17 4, xc 1 18 .add 17 1, xM 2 4 18] 3)))))) (.seq (hid ybta) (.seq (reg0 [xD 0 62 5 3, xN 1 (.fz (.sto 5 (.t 2) (.t 62)))] 2) .ret))
def ybtd : UB | _ => .seq (reg0 [xW 0 1 32 0, xQ 1 2 (.alloc 42 [xZ, xZ, xZ, xS, xS])] 2) (.seq (reg0 (hid ylsq) 7) (hid ybtc))
attribute [simp] ylsp ylsq ylss ylst ylsu ylt0 ylt2 ylt3 ylt4 ylt5 ylt6 ybta ybtc ybtd
def c_giveState : EB × List QOp × Nat := ((hid ybtd), [(.lda 5 (.t 2))], 63)
theorem k_giveState : cfun Tryz.prog 10 = some c_giveState := by kernel_rfl
def zC : List EC := [.fz (.lit (.int .i64 0)), .fz (.lit (.int .i64 0)), .fz (.lit (.int .i64 0)), .fz (.lit (.slice none 0 0)), .fz (.lit (.slice none 0 0))]
def gC (s : Sta) (a b : EC) : List EC := [.fz (.lit (.int .i64 s.num)), .fz (.lit (.int .i64 s.h0)), .fz (.lit (.int .i64 s.h1)), a, b]
theorem giveState_ok (s : Sta) (hs : s.ok) (hm : s.small) : ECalls Tryz.prog 10 [SV s] [] fun y H' => H' = [] ∧ y = SV s := by
 obtain ⟨ok1, ok2, ok3, ok4, ok5, ok6, ok7⟩ := id hs
 obtain ⟨m1, m2, m3⟩ := hm
 refine ecalls k_giveState ?_
 simp [c_giveState, SV, staC]
 refine loopW _ (weak_nil (o := 112) (k := 3) (ty := 117) (es := 36) rfl rfl (by omega)) ?_
 refine loopW _ (weak_nil (o := 112) (k := 4) (ty := 119) (es := 3) rfl rfl (by omega)) ?_
 refine eloop (α := Nat) (fun i => i ≤ s.pays.length) (fun i => s.pays.length - i)
  (fun i => [xA, Ptr 0, Ptr 1, Ptr 2, I .i64 i, xA, xA, xA, xA, xA, xA, xA, xA, xA, xA, xA, xA, xA, xA, xA, xA, xA, xA, xA, xA, xA, xA, xA, xA, xA, xA, xA, xA, xA, xA, xA, xA, xA, xA, xA, xA, xA, xA, xA, xA, xA, xA, xA, xA, xA, xA, xA, xA, xA, xA, xA, xA, xA, xA, xA, xA, xA, .any]) (fun i => [some (.box 32 (staC s)), some (.box 42 zC), some (.box 42 (gC s (.row 3 i) (.row 4 0))), some (.row 117 36 (payv (s.pays.take i))), some (.row 119 3 [])]) 0 [0, 16, 112, 160, 161]
  (Nat.zero_le _) (by simp [Ptr, I]) (by simp [zC, gC, staC, payv]) (by simp) (by simp) (by simp) ?_
 intro i hi
 simp [Ptr, I, staC, zC, gC]
 refine alt (fun hlt => ?_) (fun hlt => ?_)
 ·obtain ⟨p, hc⟩ : ∃ p, s.pays[i]? = some p := ⟨s.pays[i], by simp [hlt]⟩
  have hpo := ok4 p (List.mgE hc)
  have hl32 := hpo.2.2.2.2
  have ht : p.lock.take 32 = p.lock := List.tkL (by omega)
  have hcb := payv_get hc
  have w2 := wS (i := i) (by omega)
  have e2 : payv (s.pays.take (i + 1)) = payv (s.pays.take i) ++ [payF p] := by rw [take_s hc]; simp [payv]
  have hm0 : min i s.pays.length = i := by omega
  simp [hcb, payF, hl32, ht, w2, hm0, -Int.natCast_add]
  refine ⟨by omega, ?_⟩
  exact round (i + 1) [0, 1, 2, 213, 4] (by omega) (by omega) (by simp) (by simp [e2, payF]) (by simp) (by simp) (by simp)
 have hil : i = s.pays.length := by omega
 subst hil
 rw [List.take_length]
 simp
 refine eloop (α := Nat) (fun i => i ≤ s.holds.length) (fun i => s.holds.length - i)
  (fun i => [xA, Ptr 0, Ptr 1, Ptr 2, xA, I .i64 i, xA, xA, xA, xA, xA, xA, xA, xA, xA, xA, xA, xA, xA, xA, xA, xA, xA, xA, xA, xA, xA, xA, xA, xA, xA, xA, xA, xA, xA, xA, xA, xA, xA, xA, xA, xA, xA, xA, xA, xA, xA, xA, xA, xA, xA, xA, xA, xA, xA, xA, xA, xA, xA, xA, xA, xA, .any]) (fun i => [some (.box 32 (staC s)), some (.box 42 zC), some (.box 42 (gC s (.row 3 s.pays.length) (.row 4 i))), some (.row 117 36 (payv s.pays)), some (.row 119 3 (holv (s.holds.take i)))]) 0 [0, 1, 2, 3, 4]
  (Nat.zero_le _) (by simp [Ptr, I]) (by simp [zC, gC, staC, holv]) (by simp) (by simp) (by simp) ?_
 intro i hi
 simp [Ptr, I, staC, zC, gC]
 refine alt (fun hlt => ?_) (fun hlt => ?_)
 ·obtain ⟨p, hc⟩ : ∃ p, s.holds[i]? = some p := ⟨s.holds[i], by simp [hlt]⟩
  have hk := m3 p (List.mgE hc)
  have hcb := holv_get hc
  have w2 := wS (i := i) (by omega)
  have e2 : holv (s.holds.take (i + 1)) = holv (s.holds.take i) ++ [holF p] := by rw [take_s hc]; simp [holv]
  have hm0 : min i s.holds.length = i := by omega
  simp [hcb, holF, w2, hm0, -Int.natCast_add]
  refine ⟨⟨by omega, by omega⟩, ⟨by omega, by omega⟩, ?_⟩
  exact round (i + 1) [0, 1, 2, 3, 485] (by omega) (by omega) (by simp) (by simp [e2, holF, List.tkL]) (by simp) (by simp) (by simp)
 have hil : i = s.holds.length := by omega
 subst hil
 rw [List.take_length]
 simp
 refine finW _ (weak_frz (o := 3) (ty := 117) (es := 36) (xs := payv s.pays) rfl) ?_
 refine finW _ (weak_frz (o := 4) (ty := 119) (es := 3) (xs := holv s.holds) rfl) ?_
 exact fin [] (by decide) rfl rfl rfl ⟨rfl, by simp [List.tkL]⟩
def intF (n : Int) : List FV := [.lit (.int .i64 n)]
theorem opn_ints : Opn BB Tryz.prog 110 (fun l : List Int => [FV.sl 1 (l.map intF)]) (fun l => (∀ x ∈ l, i64 x) ∧ l.length ≤ maxLen) (fun l => l.length + 1) :=
 (opn_slice bok (e := 3) (es := 1) (by kernel_rfl) (by kernel_rfl) (by omega) opn_i64).map id (fun _ _ => rfl) (fun _ h => h) (fun l _ => by rw [sumB_one]; exact Nat.le_refl _)
theorem opn_two : Opn BB Tryz.prog 26 (fun p : Int × Int => [FV.lit (.int .i64 p.1), .lit (.int .i64 p.2)]) (fun p => i64 p.1 ∧ i64 p.2) (fun _ => 1) :=
 (opn_array bok (e := 3) (es := 1) (n := 2) (by kernel_rfl) (by kernel_rfl) (by kernel_rfl) opn_i64).map (fun l => (l[0]?.getD 0, l[1]?.getD 0)) (by
  rintro l ⟨_, h⟩
  match l, h with
  | [a, b], _ => simp) (by
  rintro l ⟨h1, h⟩
  match l, h, h1 with
  | [a, b], _, h1 => exact ⟨h1 a (by simp), h1 b (by simp)⟩) (fun _ _ => by omega)
theorem opn_pay : Opn BB Tryz.prog 118 payF Pay.ok (fun _ => 1) :=
 (opn_struct (tot := 36) bok Tryz.underlying118 (by kernel_rfl)
  (opnFs_cons bok (n := 1) (tot := 35) opn_i64 rfl (by kernel_rfl) (opnFs_cons bok (n := 1) (tot := 34) opn_i64 rfl (by kernel_rfl)
   (opnFs_cons bok (n := 1) (tot := 33) opn_i64 rfl (by kernel_rfl) (opnFs_cons bok (n := 1) (tot := 32) opn_i64 rfl (by kernel_rfl)
   (opnFs_cons bok (n := 32) (tot := 0) opn_hash rfl (by kernel_rfl) opnFs_nil)))))).map
  (fun p => (⟨p.1, p.2.1, p.2.2.1, p.2.2.2.1, p.2.2.2.2.1⟩ : Pay)) (by rintro ⟨a, b, c, d, e, u⟩ _; simp [payF]) (by rintro ⟨a, b, c, d, e, u⟩ h; exact ⟨h.1, h.2.1, h.2.2.1, h.2.2.2.1, h.2.2.2.2.1⟩) (by rintro ⟨a, b, c, d, e, u⟩ _; simp)
theorem opn_hol : Opn BB Tryz.prog 112 holF (fun h => i64 h.id ∧ i64 h.am ∧ (∀ k ∈ h.keys, i64 k)) (fun h => h.keys.length + 1) :=
 (opn_struct (tot := 3) bok Tryz.underlying112 (by kernel_rfl)
  (opnFs_cons bok (n := 1) (tot := 2) opn_i64 rfl (by kernel_rfl) (opnFs_cons bok (n := 1) (tot := 1) opn_i64 rfl (by kernel_rfl)
   (opnFs_cons bok (n := 1) (tot := 0) opn_ints rfl (by kernel_rfl) opnFs_nil)))).map
  (fun p => (⟨p.1, p.2.1, p.2.2.1⟩ : Hol)) (by rintro ⟨a, b, c, u⟩ _; simp [holF, intv, intF]) (by rintro ⟨a, b, c, u⟩ h; exact ⟨h.1, h.2.1, h.2.2.1.1⟩) (by rintro ⟨a, b, c, u⟩ _; simp; omega)
theorem opn_pays : Opn BB Tryz.prog 29 (fun l : List Pay => [FV.sl 36 (payv l)]) (fun l => ∀ x ∈ l, x.ok) (fun l => l.length) :=
 (opn_slice bok (by kernel_rfl) (by kernel_rfl) (by omega) opn_pay).map id (fun _ _ => rfl) (fun _ h => h.1) (fun l _ => by rw [sumB_one]; simp)
theorem opn_hols : Opn BB Tryz.prog 30 (fun l : List Hol => [FV.sl 3 (holv l)]) (fun l => ∀ h ∈ l, i64 h.id ∧ i64 h.am ∧ (∀ k ∈ h.keys, i64 k)) (fun l => sumB (fun h : Hol => h.keys.length + 1) l) :=
 (opn_slice bok (by kernel_rfl) (by kernel_rfl) (by omega) opn_hol).map id (fun _ _ => rfl) (fun _ h => h.1) (fun l _ => by simp)
def Sta.ok0 (s : Sta) : Prop := i64 s.num ∧ i64 s.h0 ∧ i64 s.h1 ∧ (∀ p ∈ s.pays, p.ok) ∧ ∀ h ∈ s.holds, i64 h.id ∧ i64 h.am ∧ (∀ k ∈ h.keys, i64 k)
def staF (s : Sta) : List FV := [.lit (.int .i64 s.num), .lit (.int .i64 s.h0), .lit (.int .i64 s.h1), .sl 36 (payv s.pays), .sl 3 (holv s.holds)]
def staB (s : Sta) : Nat := s.pays.length + sumB (fun h : Hol => h.keys.length + 1) s.holds
theorem opn_sta : Opn BB Tryz.prog 32 staF Sta.ok0 staB :=
 (opn_struct (tot := 5) bok Tryz.underlying32 (by kernel_rfl)
  (opnFs_cons bok (n := 1) (tot := 4) opn_i64 rfl (by kernel_rfl) (opnFs_cons bok (n := 2) (tot := 2) opn_two rfl (by kernel_rfl)
   (opnFs_cons bok (n := 1) (tot := 1) opn_pays rfl (by kernel_rfl) (opnFs_cons bok (n := 1) (tot := 0) opn_hols rfl (by kernel_rfl) opnFs_nil))))).map
  (fun p => (⟨p.1, p.2.1.1, p.2.1.2, p.2.2.1, p.2.2.2.1⟩ : Sta)) (by rintro ⟨a, b, c, d, u⟩ _; simp [staF]) (by rintro ⟨a, b, c, d, u⟩ h; exact ⟨h.1, h.2.1.1, h.2.1.2, h.2.2.1, h.2.2.2.1⟩) (by rintro ⟨a, b, c, d, u⟩ _; simp [staB]; omega)
theorem sta_ok {s : Sta} (h : s.ok0) (hb : staB s ≤ 1048576) : s.ok := by
 have key : ∀ (l : List Hol), l.length ≤ sumB (fun h : Hol => h.keys.length + 1) l ∧ ∀ x ∈ l, x.keys.length ≤ sumB (fun h : Hol => h.keys.length + 1) l := by
  intro l
  induction l with
  | nil => simp
  | cons y r ih =>
   simp only [sumB, List.length_cons]
   refine ⟨by omega, ?_⟩
   intro x hx
   rcases List.mem_cons.1 hx with rfl | hx
   ·omega
   ·have := ih.2 x hx; omega
 obtain ⟨k1, k2⟩ := key s.holds
 unfold staB at hb
 refine ⟨h.1, h.2.1, h.2.2.1, h.2.2.2.1, fun x hx => ?_, by omega, by omega⟩
 have q := h.2.2.2.2 x hx
 have := k2 x hx
 exact ⟨q.1, q.2.1, q.2.2, by omega⟩
end Go.Proofs.YtddcceahaigodaaGreatDoor
