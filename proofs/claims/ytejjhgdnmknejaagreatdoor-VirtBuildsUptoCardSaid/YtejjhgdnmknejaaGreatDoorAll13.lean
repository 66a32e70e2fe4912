import Derived.Test.YtejjhgdnmknejaaGreatDoorAll12
import Derived.Test.YtejjhgdnmknejaaGreatDoorAll9
import Derived.Test.YtejjhgdnmknejaaGreatDoorAll7
import Derived.Test.YtejjhgdnmknejaaGreatDoorProg
import Derived.Test.YtejjhgdnmknejaaGreatDoorAll8
set_option maxHeartbeats 64000000
namespace Go.Proofs.YtejjhgdnmknejaaGreatDoor
open Go Go.EW
set_option linter.unusedSimpArgs false
set_option linter.unusedVariables false
def yle4 : UL | _ => [yL 6 13 11 false 12, xG 7 14 11 false (.len (.t 13)), xG 8 15 11 false (.bin .gtr (.t 14) (xK 8)), xP 9 16 11 15]
def yle5 : UL | _ => xF 0 7 0 1 :: xL 1 8 7 :: xE 2 9 8 :: xc 3 10 .lss 9 1 :: xM 4 11 10 :: yF 5 12 11 false 0 1 :: hid yle4
def yle9 : UL | _ => [xM 0 17 3, xF 1 18 0 1, xL 2 19 18, xE 3 20 19, xb 4 21 .lss 17 20]
def ylea : UL | _ => [xN 6 (.fz (.sto 35 (.t 4) (.t 28)))]
def yleb : UL | _ => xF 0 24 0 1 :: xL 1 25 24 :: xM 2 26 3 :: xI 3 27 35 25 26 :: xD 4 28 35 27 :: xQ 5 4 (.alloc 212 (([xS] : List Value) ++ zU8 ++ [xZ, xZ])) :: hid ylea
def ylec : UL | _ => [xP 18 47 43 46, xM 19 48 47, yF 20 49 48 false 34 4, yL 21 50 48 false 49, xG 22 51 48 false (.bin .gtr (.t 50) (xK 65536)), xP 23 52 48 51]
def yled : UL | _ => xG 12 41 38 false (.bin .gtr (.t 40) (xK 1099511627776)) :: xP 13 42 38 41 :: xM 14 43 42 :: yF 15 44 43 false 34 4 :: yL 16 45 43 false 44 :: xG 17 46 43 false (.bin .lss (.t 45) (xK 0)) :: hid ylec
def ylee : UL | _ => yL 6 35 33 false 34 :: xG 7 36 33 false (.bin .lss (.t 35) (xK 0)) :: xP 8 37 33 36 :: xM 9 38 37 :: yF 10 39 38 false 33 4 :: yL 11 40 38 false 39 :: hid yled
def ylef : UL | _ => xF 0 29 0 4 :: xL 1 30 29 :: xE 2 31 30 :: xc 3 32 .lss 31 1 :: xM 4 33 32 :: yF 5 34 33 false 33 4 :: hid ylee
def ylek : UL | _ => [xM 0 53 6, xF 1 54 0 4, xL 2 55 54, xE 3 56 55, xb 4 57 .lss 53 56]
def ylel : UL | _ => [yL 12 72 67 false 71, xG 13 73 67 false (.bin .gtr (.t 72) (xK 15)), xP 14 74 67 73]
def ylem : UL | _ => xb 6 66 .leq 64 65 :: xM 7 67 66 :: yF 8 68 67 false 0 4 :: yL 9 69 67 false 68 :: yM 10 70 67 false 6 :: xG 11 71 67 false (.isl 1 (.t 69) (.t 70)) :: hid ylel
def ylen : UL | _ => xF 0 60 0 4 :: xL 1 61 60 :: xM 2 62 6 :: xI 3 63 1 61 62 :: xL 4 64 63 :: xM 5 65 5 :: hid ylem
def yleq : UL | _ => [xF 0 75 0 4, xL 1 76 75, xM 2 77 6, xI 3 78 1 76 77, xL 4 79 78, xM 5 5 79]
def ybet : UB | _ => .seq (.seq (reg0 (hid ylek) 5) (.cond (.t 57) .skip (.exit 2))) (.seq (.block 3 (.seq (.seq (reg0 (hid ylen) 15) (.cond (.t 74) (.seq (reg0 [xC 0 2 1] 1) .ret) .skip)) (reg0 (hid yleq) 6))) (reg0 [xM 0 58 6, xc 1 59 .add 58 1, xM 2 6 59] 3))
def ybeu : UB | _ => .seq (reg0 [xQ 0 5 (.mov (.k (.int .i64 (-1))))] 1) (.seq (reg0 [xC 0 6 0] 1) (.block 2 (.loop (hid ybet))))
def ybev : UB | _ => .seq (reg0 (hid yleb) 7) (.seq (.seq (reg0 (hid ylef) 24) (.cond (.t 52) (.seq (reg0 [xC 0 2 1] 1) .ret) .skip)) (hid ybeu))
def ybex : UB | _ => .seq (.seq (reg0 (hid yle9) 5) (.cond (.t 21) .skip (.exit 0))) (.seq (.block 1 (hid ybev)) (reg0 [xM 0 22 3, xc 1 23 .add 22 1, xM 2 3 23] 3))
def ybez : UB | _ => .seq (.seq (reg0 [xC 0 3 0] 1) (.block 0 (.loop (hid ybex)))) (.seq (reg0 [xC 0 2 0] 1) .ret)
def ybf0 : UB | _ => .seq (reg0 [xW 0 1 152 0, xC 1 2 0] 2) (.seq (.seq (reg0 (hid yle5) 10) (.cond (.t 16) (.seq (reg0 [xC 0 2 1] 1) .ret) .skip)) (hid ybez))
attribute [simp] yle4 yle5 yle9 ylea yleb ylec yled ylee ylef ylek ylel ylem ylen yleq ybet ybeu ybev ybex ybez ybf0
def c_RCCheck : EB × List QOp × Nat := ((hid ybf0), [(.mov (.t 2))], 80)
theorem k_RCCheck : cfun Tryz.prog 120 = some c_RCCheck := by kernel_rfl
def ylf5 : UL | _ => [xM 6 6 19]
def ylf6 : UL | _ => xF 0 14 2 1 :: xL 1 15 14 :: xM 2 16 5 :: xI 3 17 2 15 16 :: xF 4 18 0 17 :: xL 5 19 18 :: hid ylf5
def ylf7 : UL | _ => [xM 6 26 25, yM 7 27 26 false 4, yM 8 28 26 false 6, xG 9 29 26 false (.bin .add (.t 27) (.t 28)), xG 10 30 26 false (.bin .gtr (.t 29) (xK 1125899906842624)), xP 11 31 26 30]
def ylf8 : UL | _ => xM 0 20 6 :: xc 1 21 .lss 20 0 :: xM 2 22 21 :: yM 3 23 22 false 6 :: xG 4 24 22 false (.bin .gtr (.t 23) (xK 1125899906842624)) :: xP 5 25 22 24 :: hid ylf7
def ybfc : UB | _ => .seq (reg0 (hid ylf6) 7) (.seq (.seq (reg0 (hid ylf8) 12) (.cond (.t 31) (.seq (reg0 [xC 0 2 0, xC 1 3 5] 2) .ret) .skip)) (reg0 [xM 0 32 4, xM 1 33 6, xb 2 34 .add 32 33, xM 3 4 34] 4))
def ybfe : UB | _ => .seq (.seq (reg0 [xM 0 7 5, xF 1 8 2 1, xL 2 9 8, xE 3 10 9, xb 4 11 .lss 7 10] 5) (.cond (.t 11) .skip (.exit 0))) (.seq (.block 1 (hid ybfc)) (reg0 [xM 0 12 5, xc 1 13 .add 12 1, xM 2 5 13] 3))
def ybff : UB | _ => .seq (reg0 [xC 0 5 0] 1) (.block 0 (.loop (hid ybfe)))
def ybfh : UB | _ => .seq (reg0 [xC 0 4 0] 1) (.seq (hid ybff) (.seq (reg0 [xM 0 35 4, xM 1 2 35, xC 2 3 0] 3) .ret))
def ybfi : UB | _ => .seq (reg0 [xW 0 1 77 0, xC 1 2 0, xC 2 3 0] 3) (hid ybfh)
attribute [simp] ylf5 ylf6 ylf7 ylf8 ybfc ybfe ybff ybfh ybfi
def c_RTxTotal : EB × List QOp × Nat := ((hid ybfi), [(.mov (.t 2)), (.mov (.t 3))], 36)
theorem k_RTxTotal : cfun Tryz.prog 121 = some c_RTxTotal := by kernel_rfl
def ylfk : UL | _ => [xG 30 41 37 false (.bin .gtr (.t 40) (xK 64)), xP 31 42 37 41]
def ylfl : UL | _ => xG 24 35 31 false (.bin .lss (.t 34) (xK 1)) :: xP 25 36 31 35 :: xM 26 37 36 :: yF 27 38 37 false 2 1 :: yL 28 39 37 false 38 :: xG 29 40 37 false (.len (.t 39)) :: hid ylfk
def ylfm : UL | _ => xG 18 29 25 false (.bin .gtr (.t 28) (xK 64)) :: xP 19 30 25 29 :: xM 20 31 30 :: yF 21 32 31 false 2 1 :: yL 22 33 31 false 32 :: xG 23 34 31 false (.len (.t 33)) :: hid ylfl
def ylfn : UL | _ => xG 12 23 19 false (.bin .lss (.t 22) (xK 1)) :: xP 13 24 19 23 :: xM 14 25 24 :: yF 15 26 25 false 1 1 :: yL 16 27 25 false 26 :: xG 17 28 25 false (.len (.t 27)) :: hid ylfm
def ylfo : UL | _ => xG 6 17 14 false (.bin .gtr (.t 16) (xK 1099511627776)) :: xP 7 18 14 17 :: xM 8 19 18 :: yF 9 20 19 false 1 1 :: yL 10 21 19 false 20 :: xG 11 22 19 false (.len (.t 21)) :: hid ylfn
def ylfp : UL | _ => xF 0 11 0 1 :: xL 1 12 11 :: xc 2 13 .lss 12 0 :: xM 3 14 13 :: yF 4 15 14 false 0 1 :: yL 5 16 14 false 15 :: hid ylfo
def ylft : UL | _ => [xM 0 43 3, xF 1 44 1 1, xL 2 45 44, xE 3 46 45, xb 4 47 .lss 43 46]
def ylfu : UL | _ => [xN 6 (.fz (.sto 35 (.t 4) (.t 54)))]
def ylfv : UL | _ => xF 0 50 1 1 :: xL 1 51 50 :: xM 2 52 3 :: xI 3 53 35 51 52 :: xD 4 54 35 53 :: xQ 5 4 (.alloc 149 (zU8 ++ [xZ, xZ, xS])) :: hid ylfu
def ylfw : UL | _ => [xG 24 79 75 false (.bin .gtr (.t 78) (xK 64)), xP 25 80 75 79]
def ylfx : UL | _ => xG 18 73 70 false (.bin .gtr (.t 72) (xK 7)) :: xP 19 74 70 73 :: xM 20 75 74 :: yF 21 76 75 false 34 4 :: yL 22 77 75 false 76 :: xG 23 78 75 false (.len (.t 77)) :: hid ylfw
def ylfy : UL | _ => yL 12 67 65 false 66 :: xG 13 68 65 false (.bin .lss (.t 67) (xK 0)) :: xP 14 69 65 68 :: xM 15 70 69 :: yF 16 71 70 false 33 4 :: yL 17 72 70 false 71 :: hid ylfx
def ylfz : UL | _ => yF 6 61 59 false 32 60 :: yL 7 62 59 false 61 :: xG 8 63 59 false (.bin .gtr (.t 62) (xK 63)) :: xP 9 64 59 63 :: xM 10 65 64 :: yF 11 66 65 false 33 4 :: hid ylfy
def ylg0 : UL | _ => xF 0 55 0 4 :: xF 1 56 32 55 :: xL 2 57 56 :: xc 3 58 .lss 57 0 :: xM 4 59 58 :: yF 5 60 59 false 0 4 :: hid ylfz
def ybg6 : UB | _ => .seq (reg0 [xC 0 3 0] 1) (.block 0 (.loop (.seq (.seq (reg0 (hid ylft) 5) (.cond (.t 47) .skip (.exit 0))) (.seq (.block 1 (.seq (reg0 (hid ylfv) 7) (.seq (reg0 (hid ylg0) 26) (.cond (.t 80) (.seq (reg0 [xC 0 2 4] 1) .ret) .skip)))) (reg0 [xM 0 48 3, xc 1 49 .add 48 1, xM 2 3 49] 3)))))
def ylg8 : UL | _ => [xM 0 81 5, xF 1 82 1 1, xL 2 83 82, xE 3 84 83, xb 4 85 .lss 81 84]
def ylgb : UL | _ => [xQ 12 105 (.eqw false [(32, .u8), (1, .i64)] (.t 98) (.t 104))]
def ylgc : UL | _ => xF 6 99 1 1 :: xL 7 100 99 :: xM 8 101 6 :: xI 9 102 35 100 101 :: xF 10 103 0 102 :: xD 11 104 33 103 :: hid ylgb
def ylgd : UL | _ => xF 0 93 1 1 :: xL 1 94 93 :: xM 2 95 5 :: xI 3 96 35 94 95 :: xF 4 97 0 96 :: xD 5 98 33 97 :: hid ylgc
def ybgi : UB | _ => .seq (reg0 [xC 0 6 0] 1) (.block 4 (.loop (.seq (.seq (reg0 [xM 0 88 6, xM 1 89 5, xb 2 90 .lss 88 89] 3) (.cond (.t 90) .skip (.exit 4))) (.seq (.block 5 (.seq (reg0 (hid ylgd) 13) (.cond (.t 105) (.seq (reg0 [xC 0 2 9] 1) .ret) .skip))) (reg0 [xM 0 91 6, xc 1 92 .add 91 1, xM 2 6 92] 3)))))
def ylgn : UL | _ => [xM 0 106 7, xF 1 107 2 1, xL 2 108 107, xE 3 109 108, xb 4 110 .lss 106 109]
def ylgo : UL | _ => [xc 6 119 .lss 118 10]
def ylgp : UL | _ => xF 0 113 2 1 :: xL 1 114 113 :: xM 2 115 7 :: xI 3 116 2 114 115 :: xF 4 117 0 116 :: xL 5 118 117 :: hid ylgo
def ylgs : UL | _ => [xc 6 126 .gtr 125 1125899906842624]
def ylgt : UL | _ => xF 0 120 2 1 :: xL 1 121 120 :: xM 2 122 7 :: xI 3 123 2 121 122 :: xF 4 124 0 123 :: xL 5 125 124 :: hid ylgs
def ylgw : UL | _ => [xO 6 133 (.call 120 [.t 132]), xM 7 8 133]
def ylgx : UL | _ => xF 0 127 2 1 :: xL 1 128 127 :: xM 2 129 7 :: xI 3 130 2 128 129 :: xF 4 131 1 130 :: xD 5 132 1 131 :: hid ylgw
def ybh1 : UB | _ => .seq (.seq (reg0 (hid ylgt) 7) (.cond (.t 126) (.seq (reg0 [xC 0 2 5] 1) .ret) .skip)) (.seq (reg0 (hid ylgx) 8) (.seq (reg0 [xM 0 134 8, xc 1 135 .neq 134 0] 2) (.cond (.t 135) (.seq (reg0 [xM 0 136 8, xM 1 2 136] 2) .ret) .skip)))
def ybh3 : UB | _ => .seq (.block 7 (.seq (.seq (reg0 (hid ylgp) 7) (.cond (.t 119) (.seq (reg0 [xC 0 2 27] 1) .ret) .skip)) (hid ybh1))) (reg0 [xM 0 111 7, xc 1 112 .add 111 1, xM 2 7 112] 3)
def ybh4 : UB | _ => .seq (.seq (reg0 (hid ylgn) 5) (.cond (.t 110) .skip (.exit 6))) (hid ybh3)
def ybh5 : UB | _ => .seq (reg0 [xC 0 7 0] 1) (.block 6 (.loop (hid ybh4)))
def ylh6 : UL | _ => [xM 6 10 141]
def ylh7 : UL | _ => xD 0 138 3 1 :: xO 1 139 (.call 121 [.t 138]) :: xM 2 137 139 :: xX 3 140 0 137 :: xX 4 141 1 137 :: xM 5 9 140 :: hid ylh6
def ybha : UB | _ => .seq (.seq (reg0 [xC 0 5 0] 1) (.block 2 (.loop (.seq (.seq (reg0 (hid ylg8) 5) (.cond (.t 85) .skip (.exit 2))) (.seq (.block 3 (hid ybgi)) (reg0 [xM 0 86 5, xc 1 87 .add 86 1, xM 2 5 87] 3)))))) (.seq (hid ybh5) (.seq (reg0 (hid ylh7) 7) (.seq (reg0 [xM 0 142 10, xM 1 2 142] 2) .ret)))
def ybhc : UB | _ => .seq (reg0 [xW 0 1 77 0, xC 1 2 0] 2) (.seq (.seq (reg0 (hid ylfp) 32) (.cond (.t 42) (.seq (reg0 [xC 0 2 4] 1) .ret) .skip)) (.seq (hid ybg6) (hid ybha)))
attribute [simp] ylfk ylfl ylfm ylfn ylfo ylfp ylft ylfu ylfv ylfw ylfx ylfy ylfz ylg0 ybg6 ylg8 ylgb ylgc ylgd ybgi ylgn ylgo ylgp ylgs ylgt ylgw ylgx ybh1 ybh3 ybh4 ybh5 ylh6 ylh7 ybha ybhc
def c_RTxCheck : EB × List QOp × Nat := ((hid ybhc), [(.mov (.t 2))], 143)
theorem k_RTxCheck : cfun Tryz.prog 59 = some c_RTxCheck := by kernel_rfl
theorem drop35t (a b c : EC) : List.drop 35 (a :: (hc hz ++ [b, c])) = [] := by rw [List.drop_eq_nil_iff]; simp [hz]
def AllB (l : List Bra) (i : Nat) : Prop := (l.take i).all brM = true
theorem all_take {l : List Bra} {i : Nat} {b : Bra} (h : l[i]? = some b) (ht : AllB l i) (hb : brM b = true) : AllB l (i + 1) := by
 unfold AllB at *
 rw [List.take_add_one, h, List.all_append, ht]; simp [hb]
def AllI (l : List Inp) (i : Nat) : Prop := (l.take i).all inM = true
theorem alli_take {l : List Inp} {i : Nat} {b : Inp} (h : l[i]? = some b) (ht : AllI l i) (hb : inM b = true) : AllI l (i + 1) := by
 unfold AllI at *
 rw [List.take_add_one, h, List.all_append, ht]; simp [hb]
theorem cnE_bad {l : List Bra} {i : Nat} {b : Bra} (h : l[i]? = some b) (hb : brM b = false) : cnE l = 1 := by
 refine if_neg ?_
 rintro ⟨_, h2⟩
 have := (List.all_eq_true.1 h2) b (List.mgE h)
 rw [hb] at this
 simp at this
theorem RCCheck_ok (l : List Bra) (hl : ∀ h ∈ l, h.ok) (hn : l.length ≤ 100000000) : ECalls Tryz.prog 120 [CNv l] [] fun y H' => H' = [] ∧ y = I .i64 (cnE l) := by
 refine ecalls k_RCCheck ?_
 simp [c_RCCheck, CNv, I]
 by_cases c1 : l.length < 1
 ·have c1' : (l.length : Int) < 1 := by omega
  have d1 : ¬ 1 ≤ l.length := by omega
  have d1' : ¬ (1 : Int) ≤ (l.length : Int) := by omega
  have hv : cnE l = 1 := if_neg (by omega)
  rw [hv]
  simp [c1, c1', d1, d1']
  exact fin0
 have c1' : ¬ (l.length : Int) < 1 := by omega
 have d1 : 1 ≤ l.length := by omega
 have d1' : (1 : Int) ≤ (l.length : Int) := by omega
 by_cases c2 : 8 < l.length
 ·have c2' : (8 : Int) < (l.length : Int) := by omega
  have d2 : ¬ l.length ≤ 8 := by omega
  have d2' : ¬ (l.length : Int) ≤ 8 := by omega
  have hv : cnE l = 1 := if_neg (by omega)
  rw [hv]
  simp [c1, c1', d1, d1', c2, c2', d2, d2']
  exact fin0
 have c2' : ¬ (8 : Int) < (l.length : Int) := by omega
 have d2 : l.length ≤ 8 := by omega
 have d2' : (l.length : Int) ≤ 8 := by omega
 simp [c1, c1', d1, d1', c2, c2', d2, d2']
 refine eloop (α := Nat) (fun i => i ≤ l.length ∧ AllB l i) (fun i => l.length - i)
  (fun i => [xA, Ptr 0, xA, I .i64 i, xA, xA, xA, xA, xA, xA, xA, xA, xA, xA, xA, xA, xA, xA, xA, xA, xA, xA, xA, xA, xA, xA, xA, xA, xA, xA, xA, xA, xA, xA, xA, xA, xA, xA, xA, xA, xA, xA, xA, xA, xA, xA, xA, xA, xA, xA, xA, xA, xA, xA, xA, xA, xA, xA, xA, xA, xA, xA, xA, xA, xA, xA, xA, xA, xA, xA, xA, xA, xA, xA, xA, xA, xA, xA, xA, .any]) (fun _ => [some (.box 152 [.fz (.sl 35 (brav l))])]) 0 [0]
  ⟨by simp, by simp [AllB]⟩ (by simp [Ptr, I]) (by simp) (by simp) (by simp) (by simp) ?_
 rintro i ⟨hi1, hi2⟩
 simp [Ptr, I]
 refine alt (fun hlt => ?_) (fun hlt => ?_)
 rotate_left
 ·have hil : i = l.length := by omega
  subst hil
  unfold AllB at hi2
  rw [List.take_length] at hi2
  have hv : cnE l = 0 := if_pos ⟨by omega, hi2⟩
  rw [hv]
  simp
  exact fin0
 have hln : i < l.length := by omega
 obtain ⟨b, hcb⟩ : ∃ b, l[i]? = some b := ⟨l[i], by simp [hln]⟩
 have hge : (brav l)[i]'(by simp [hln]) = braF b := gE (brav_get hcb)
 obtain ⟨hk, h1, ha, ho, h4⟩ := hl b (List.mgE hcb)
 have l0 := bc_len h1
 have l1 := bf_len h1
 have tk := bc_take h1
 have e0 := idx_of (bc_0 b) (by omega)
 have e33 := idx_of (bc_33 h1) (by omega)
 have e34 := idx_of (bc_34 h1) (by omega)
 simp [hln, hge, braF_fz, l0, l1, tk, drop35t, e0, e33, e34, iC]
 have hbad : ∀ q : ¬ (1 ≤ b.keys.length ∧ 0 ≤ b.af ∧ b.af ≤ 1099511627776 ∧ 0 ≤ b.ol ∧ b.ol ≤ 65536), cnE l = 1 := fun q => cnE_bad hcb (by unfold brM; rw [decide_eq_false q, Bool.and_false])
 by_cases c3 : b.keys.length < 1
 ·have c3' : (b.keys.length : Int) < 1 := by omega
  have d3 : ¬ 1 ≤ b.keys.length := by omega
  have d3' : ¬ (1 : Int) ≤ (b.keys.length : Int) := by omega
  rw [hbad (by omega)]
  simp [c3, c3', d3, d3']
  exact fin0
 have c3' : ¬ (b.keys.length : Int) < 1 := by omega
 have d3 : 1 ≤ b.keys.length := by omega
 have d3' : (1 : Int) ≤ (b.keys.length : Int) := by omega
 by_cases c4 : b.af < 0
 ·have d4 : ¬ 0 ≤ b.af := by omega
  rw [hbad (by omega)]
  simp [c3, c3', d3, d3', c4, d4, l0, e33, e34, iC]
  exact fin0
 have d4 : 0 ≤ b.af := by omega
 by_cases c5 : 1099511627776 < b.af
 ·have d5 : ¬ b.af ≤ 1099511627776 := by omega
  rw [hbad (by omega)]
  simp [c3, c3', d3, d3', c4, d4, c5, d5, l0, e33, e34, iC]
  exact fin0
 have d5 : b.af ≤ 1099511627776 := by omega
 by_cases c6 : b.ol < 0
 ·have d6 : ¬ 0 ≤ b.ol := by omega
  rw [hbad (by omega)]
  simp [c3, c3', d3, d3', c4, d4, c5, d5, c6, d6, l0, e33, e34, iC]
  exact fin0
 have d6 : 0 ≤ b.ol := by omega
 by_cases c7 : 65536 < b.ol
 ·have d7 : ¬ b.ol ≤ 65536 := by omega
  rw [hbad (by omega)]
  simp [c3, c3', d3, d3', c4, d4, c5, d5, c6, d6, c7, d7, l0, e33, e34, iC]
  exact fin0
 have d7 : b.ol ≤ 65536 := by omega
 simp [c3, c3', d3, d3', c4, d4, c5, d5, c6, d6, c7, d7, l0, e33, e34, iC]
 refine eloop (α := Nat × Int) (fun a => a.1 ≤ b.keys.length ∧ keysS (-1) b.keys = keysS a.2 (b.keys.drop a.1)) (fun a => b.keys.length - a.1)
  (fun a => [xA, Ptr 0, xA, I .i64 i, Ptr 1, I .i64 a.2, I .i64 a.1, xA, xA, xA, xA, xA, xA, xA, xA, xA, xA, xA, xA, xA, xA, xA, xA, xA, xA, xA, xA, xA, xA, xA, xA, xA, xA, xA, xA, xA, xA, xA, xA, xA, xA, xA, xA, xA, xA, xA, xA, xA, xA, xA, xA, xA, xA, xA, xA, xA, xA, xA, xA, xA, xA, xA, xA, xA, xA, xA, xA, xA, xA, xA, xA, xA, xA, xA, xA, xA, xA, xA, xA, .any]) (fun _ => [some (.box 152 [.fz (.sl 35 (brav l))]), some (.box 212 (braC b))]) (0, -1) [0, 161]
  ⟨by simp, by simp⟩ (by simp [Ptr, I]) (by simp) (by simp) (by simp) (by simp) ?_
 rintro ⟨j, last⟩ ⟨hj1, hj2⟩
 dsimp only at hj1 hj2
 simp [Ptr, I, l0, e0]
 refine alt (fun hlt2 => ?_) (fun hlt2 => ?_)
 ·have hjn : j < b.keys.length := by omega
  obtain ⟨k, hck⟩ : ∃ k, b.keys[j]? = some k := ⟨b.keys[j], by simp [hjn]⟩
  have ga : ∀ h2, (intv b.keys)[j]'h2 = [.lit (.int .i64 k)] := fun h2 => by rw [intv_at hjn, hck]; rfl
  rw [drop_cons hck] at hj2
  have w1 : IntKind.i64.wrap ((j : Int) + 1) = ((j + 1 : Nat) : Int) := wrap_i64 (by omega) (by omega)
  have hbk : ¬ (last < k ∧ k < 16) → cnE l = 1 := fun q => cnE_bad hcb (by unfold brM; rw [hj2]; simp only [keysS, decide_eq_false q, Bool.false_and])
  simp [hjn, ga, l0, e0]
  by_cases g1 : k ≤ last
  ·have g1' : ¬ last < k := by omega
   rw [hbk (by omega)]
   simp [g1, g1']
   exact fin0
  have g1' : last < k := by omega
  by_cases g2 : 15 < k
  ·have g2' : ¬ k ≤ 15 := by omega
   rw [hbk (by omega)]
   simp [g1, g1', g2, g2', hjn, ga, l0, e0]
   exact fin0
  have g2' : k ≤ 15 := by omega
  simp [g1, g1', g2, g2', hjn, ga, l0, e0, w1, -Int.natCast_add]
  exact round (j + 1, k) [0, 1] ⟨by dsimp only; omega, by dsimp only; rw [hj2, keysS, decide_eq_true ⟨g1', by omega⟩, Bool.true_and]⟩ (by dsimp only; omega) (by simp [Ptr, I]) (by simp) (by simp) (by simp) (by simp)
 ·have hd : b.keys.drop j = [] := by rw [List.drop_eq_nil_iff]; omega
  have hks : keysS (-1) b.keys = true := by rw [hj2, hd]; rfl
  have hbm : brM b = true := by unfold brM; rw [hks, Bool.true_and]; exact decide_eq_true ⟨d3, d4, d5, d6, d7⟩
  have w1 := wS (i := i) (by omega)
  simp [w1, -Int.natCast_add]
  exact round (i + 1) [0] ⟨by omega, all_take hcb hi2 hbm⟩ (by omega) (by simp [Ptr, I]) (by simp) (by simp) (by simp) (by simp)
theorem RTxTotal_ok (t : Txn) (ht : t.ok) : ECalls Tryz.prog 121 [TXv t] [] fun y H' => H' = [] ∧ y = .tup [.c (iC (totO 0 t.outs).1), .c (iC ((totO 0 t.outs).2 : Int))] := by
 obtain ⟨h1, h2, h3, h4, h5⟩ := ht
 obtain ⟨F, hF⟩ : ∃ F, totO 0 t.outs = F := ⟨_, rfl⟩
 rw [hF]
 refine ecalls k_RTxTotal ?_
 simp [c_RTxTotal, TXv, txC, I, iC]
 refine eloop (α := Nat × Int) (fun a => a.1 ≤ t.outs.length ∧ totO a.2 (t.outs.drop a.1) = F ∧ 0 ≤ a.2 ∧ a.2 ≤ 1125899906842624) (fun a => t.outs.length - a.1)
  (fun a => [xA, Ptr 0, xA, xA, I .i64 a.2, I .i64 a.1, xA, xA, xA, xA, xA, xA, xA, xA, xA, xA, xA, xA, xA, xA, xA, xA, xA, xA, xA, xA, xA, xA, xA, xA, xA, xA, xA, xA, xA, .any]) (fun _ => [some (.box 77 (txC t))]) (0, 0) [0]
  ⟨by simp, by simpa using hF, by simp, by simp⟩ (by simp [I, Ptr]) (by simp [txC, iC]) (by simp) (by simp) (by simp) ?_
 rintro ⟨i, n⟩ ⟨hi1, hi2, hi3, hi4⟩
 dsimp only at hi1 hi2 hi3 hi4
 simp [I, Ptr, txC, iC]
 refine alt (fun hlt => ?_) (fun hlt => ?_)
 ·have hln : i < t.outs.length := by omega
  obtain ⟨p, hc⟩ : ∃ p, t.outs[i]? = some p := ⟨t.outs[i], by simp [hln]⟩
  have hge : (outv t.outs)[i]'(by simp [hln]) = outF p := gE (outv_get hc)
  have hpo := h3 p (List.mgE hc)
  have hpa := hpo.1
  unfold i64 at hpa
  rw [drop_cons hc] at hi2
  have w1 := wS (i := i) (by omega)
  simp [hln, hge, outF, iF]
  by_cases c1 : p.am < 0
  ·have c1' : ¬ 0 ≤ p.am := by omega
   have hv : F = (0, 5) := by rw [← hi2]; exact if_pos (.inl c1)
   rw [hv]
   simp [c1, c1']
   exact fin0
  have c1' : 0 ≤ p.am := by omega
  by_cases c3 : 1125899906842624 < p.am
  ·have c3' : ¬ p.am ≤ 1125899906842624 := by omega
   have hv : F = (0, 5) := by rw [← hi2]; exact if_pos (.inr (by omega))
   rw [hv]
   simp [c1, c1', c3, c3']
   exact fin0
  have c3' : p.am ≤ 1125899906842624 := by omega
  have w3 : IntKind.i64.wrap (n + p.am) = n + p.am := wrap_i64 (by omega) (by omega)
  by_cases c2 : 1125899906842624 < n + p.am
  ·have c2' : ¬ n + p.am ≤ 1125899906842624 := by omega
   have hv : F = (0, 5) := by rw [← hi2]; exact if_pos (.inr (by omega))
   rw [hv]
   simp [c1, c1', c3, c3', w3, c2, c2']
   exact fin0
  have c2' : n + p.am ≤ 1125899906842624 := by omega
  have hn : totO (n + p.am) (t.outs.drop (i + 1)) = F := by rw [← hi2]; exact (if_neg (by omega)).symm
  simp [c1, c1', c3, c3', c2, c2', w3, w1, -Int.natCast_add]
  exact round (i + 1, n + p.am) [0] ⟨by dsimp only; omega, hn, by dsimp only; omega, by dsimp only; omega⟩ (by dsimp only; omega) (by simp [I, Ptr]) (by simp) (by simp) (by simp) (by simp)
 ·have hd : t.outs.drop i = [] := by rw [List.drop_eq_nil_iff]; omega
  rw [hd] at hi2
  rw [← hi2]
  simp
  exact fin0
theorem RTxCheck_ok (t : Txn) (ht : t.ok) : ECalls Tryz.prog 59 [TXv t] [] fun y H' => H' = [] ∧ y = I .i64 (chkT t) := by
 obtain ⟨h1, h2, h3, h4, h5⟩ := id ht
 have hv4 : (t.lk < 0 ∨ 1099511627776 < t.lk ∨ ¬ (1 ≤ t.ins.length ∧ t.ins.length ≤ 64) ∨ ¬ (1 ≤ t.outs.length ∧ t.outs.length ≤ 64) ∨ t.ins.all inM = false) → chkT t = 4 := fun h => if_pos h
 refine ecalls k_RTxCheck ?_
 simp [c_RTxCheck, TXv, txC, I, iC]
 by_cases c1 : t.lk < 0
 ·have c1' : ¬ 0 ≤ t.lk := by omega
  rw [hv4 (.inl c1)]
  simp [c1, c1']
  exact fin0
 have c1' : 0 ≤ t.lk := by omega
 by_cases c2 : 1099511627776 < t.lk
 ·have c2' : ¬ t.lk ≤ 1099511627776 := by omega
  rw [hv4 (.inr (.inl c2))]
  simp [c1, c1', c2, c2']
  exact fin0
 have c2' : t.lk ≤ 1099511627776 := by omega
 by_cases c3 : t.ins.length < 1
 ·have c3' : (t.ins.length : Int) < 1 := by omega
  have d3 : ¬ 1 ≤ t.ins.length := by omega
  have d3' : ¬ (1 : Int) ≤ (t.ins.length : Int) := by omega
  rw [hv4 (.inr (.inr (.inl (by omega))))]
  simp [c1, c1', c2, c2', c3, c3', d3, d3']
  exact fin0
 have c3' : ¬ (t.ins.length : Int) < 1 := by omega
 have d3 : 1 ≤ t.ins.length := by omega
 have d3' : (1 : Int) ≤ (t.ins.length : Int) := by omega
 by_cases c4 : 64 < t.ins.length
 ·have c4' : (64 : Int) < (t.ins.length : Int) := by omega
  have d4 : ¬ t.ins.length ≤ 64 := by omega
  have d4' : ¬ (t.ins.length : Int) ≤ 64 := by omega
  rw [hv4 (.inr (.inr (.inl (by omega))))]
  simp [c1, c1', c2, c2', c3, c3', d3, d3', c4, c4', d4, d4']
  exact fin0
 have c4' : ¬ (64 : Int) < (t.ins.length : Int) := by omega
 have d4 : t.ins.length ≤ 64 := by omega
 have d4' : (t.ins.length : Int) ≤ 64 := by omega
 by_cases c5 : t.outs.length < 1
 ·have c5' : (t.outs.length : Int) < 1 := by omega
  have d5 : ¬ 1 ≤ t.outs.length := by omega
  have d5' : ¬ (1 : Int) ≤ (t.outs.length : Int) := by omega
  rw [hv4 (.inr (.inr (.inr (.inl (by omega)))))]
  simp [c1, c1', c2, c2', c3, c3', d3, d3', c4, c4', d4, d4', c5, c5', d5, d5']
  exact fin0
 have c5' : ¬ (t.outs.length : Int) < 1 := by omega
 have d5 : 1 ≤ t.outs.length := by omega
 have d5' : (1 : Int) ≤ (t.outs.length : Int) := by omega
 by_cases c6 : 64 < t.outs.length
 ·have c6' : (64 : Int) < (t.outs.length : Int) := by omega
  have d6 : ¬ t.outs.length ≤ 64 := by omega
  have d6' : ¬ (t.outs.length : Int) ≤ 64 := by omega
  rw [hv4 (.inr (.inr (.inr (.inl (by omega)))))]
  simp [c1, c1', c2, c2', c3, c3', d3, d3', c4, c4', d4, d4', c5, c5', d5, d5', c6, c6', d6, d6']
  exact fin0
 have c6' : ¬ (64 : Int) < (t.outs.length : Int) := by omega
 have d6 : t.outs.length ≤ 64 := by omega
 have d6' : (t.outs.length : Int) ≤ 64 := by omega
 simp [c1, c1', c2, c2', c3, c3', d3, d3', c4, c4', d4, d4', c5, c5', d5, d5', c6, c6', d6, d6']
 refine eloop (α := Nat) (fun i => i ≤ t.ins.length ∧ AllI t.ins i) (fun i => t.ins.length - i)
  (fun i => [xA, Ptr 0, xA, I .i64 i, xA, xA, xA, xA, xA, xA, xA, xA, xA, xA, xA, xA, xA, xA, xA, xA, xA, xA, xA, xA, xA, xA, xA, xA, xA, xA, xA, xA, xA, xA, xA, xA, xA, xA, xA, xA, xA, xA, xA, xA, xA, xA, xA, xA, xA, xA, xA, xA, xA, xA, xA, xA, xA, xA, xA, xA, xA, xA, xA, xA, xA, xA, xA, xA, xA, xA, xA, xA, xA, xA, xA, xA, xA, xA, xA, xA, xA, xA, xA, xA, xA, xA, xA, xA, xA, xA, xA, xA, xA, xA, xA, xA, xA, xA, xA, xA, xA, xA, xA, xA, xA, xA, xA, xA, xA, xA, xA, xA, xA, xA, xA, xA, xA, xA, xA, xA, xA, xA, xA, xA, xA, xA, xA, xA, xA, xA, xA, xA, xA, xA, xA, xA, xA, xA, xA, xA, xA, xA, .any]) (fun _ => [some (.box 77 (txC t))]) 0 [0]
  ⟨by simp, by simp [AllI]⟩ (by simp [Ptr, I]) (by simp [txC, iC]) (by simp) (by simp) (by simp) ?_
 rintro i ⟨hi1, hi2⟩
 simp [Ptr, I, txC, iC]
 refine alt (fun hlt => ?_) (fun hlt => ?_)
 ·have hln : i < t.ins.length := by omega
  obtain ⟨p, hcp⟩ : ∃ p, t.ins[i]? = some p := ⟨t.ins[i], by simp [hln]⟩
  have hge : (inpv t.ins)[i]'(by simp [hln]) = inpF p := gE (inpv_get hcp)
  have hpo := h2 p (List.mgE hcp)
  have l0 := ic_len hpo.1
  have l1 := if_len hpo.1
  have tk := ic_take hpo.1
  have e32 := idx_of (ic_32 hpo.1) (by omega)
  have e33 := idx_of (ic_33 hpo.1) (by omega)
  have e34 := idx_of (ic_34 hpo.1) (by omega)
  have w1 := wS (i := i) (by omega)
  have hb : (bsv p.sec).length = p.sec.length := by simp
  have hbad : ¬ (0 ≤ p.n ∧ p.n < 64 ∧ 0 ≤ p.br ∧ p.br < 8 ∧ p.sec.length ≤ 64) → chkT t = 4 := fun q => hv4 (.inr (.inr (.inr (.inr (by rw [List.all_eq_false]; exact ⟨p, List.mgE hcp, by unfold inM; rw [decide_eq_false q]; simp⟩)))))
  simp [hln, hge, inpF_fz, l0, l1, tk, drop35i, e32, e33, e34, iC]
  by_cases g1 : p.n < 0
  ·have g1' : ¬ 0 ≤ p.n := by omega
   rw [hbad (by omega)]
   simp [g1, g1']
   exact fin0
  have g1' : 0 ≤ p.n := by omega
  by_cases g2 : 63 < p.n
  ·have g2' : ¬ p.n ≤ 63 := by omega
   rw [hbad (by omega)]
   simp [g1, g1', g2, g2', l0, e32, e33, e34, iC]
   exact fin0
  have g2' : p.n ≤ 63 := by omega
  by_cases g3 : p.br < 0
  ·have g3' : ¬ 0 ≤ p.br := by omega
   rw [hbad (by omega)]
   simp [g1, g1', g2, g2', g3, g3', l0, e32, e33, e34, iC]
   exact fin0
  have g3' : 0 ≤ p.br := by omega
  by_cases g4 : 7 < p.br
  ·have g4' : ¬ p.br ≤ 7 := by omega
   rw [hbad (by omega)]
   simp [g1, g1', g2, g2', g3, g3', g4, g4', l0, e32, e33, e34, iC]
   exact fin0
  have g4' : p.br ≤ 7 := by omega
  by_cases g5 : 64 < p.sec.length
  ·have g5' : (64 : Int) < (p.sec.length : Int) := by omega
   have k5 : ¬ p.sec.length ≤ 64 := by omega
   have k5' : ¬ (p.sec.length : Int) ≤ 64 := by omega
   rw [hbad (by omega)]
   simp [g1, g1', g2, g2', g3, g3', g4, g4', g5, g5', k5, k5', hb, l0, e32, e33, e34, iC]
   exact fin0
  have g5' : ¬ (64 : Int) < (p.sec.length : Int) := by omega
  have k5 : p.sec.length ≤ 64 := by omega
  have k5' : (p.sec.length : Int) ≤ 64 := by omega
  have hgd : inM p = true := decide_eq_true ⟨by omega, by omega, by omega, by omega, by omega⟩
  simp [g1, g1', g2, g2', g3, g3', g4, g4', g5, g5', k5, k5', hb, l0, e32, e33, e34, iC, w1, -Int.natCast_add]
  exact round (i + 1) [0] ⟨by omega, alli_take hcp hi2 hgd⟩ (by omega) (by simp [Ptr, I]) (by simp) (by simp) (by simp) (by simp)
 have hil : i = t.ins.length := by omega
 subst hil
 unfold AllI at hi2
 rw [List.take_length] at hi2
 have hv9 : chkT t = if ¬ (t.ins.map ptI).Nodup then 9 else if outsE t.outs ≠ 0 then outsE t.outs else (totO 0 t.outs).2 := by
  unfold chkT
  rw [if_neg]
  rintro (h | h | h | h | h)
  ·exact c1 h
  ·exact c2 h
  ·omega
  ·omega
  ·rw [hi2] at h; simp at h
 clear hi1 hlt
 simp
 refine eloop (α := Nat) (fun i => i ≤ t.ins.length ∧ ((t.ins.take i).map ptI).Nodup) (fun i => t.ins.length - i)
  (fun i => [xA, Ptr 0, xA, xA, xA, I .i64 i, xA, xA, xA, xA, xA, xA, xA, xA, xA, xA, xA, xA, xA, xA, xA, xA, xA, xA, xA, xA, xA, xA, xA, xA, xA, xA, xA, xA, xA, xA, xA, xA, xA, xA, xA, xA, xA, xA, xA, xA, xA, xA, xA, xA, xA, xA, xA, xA, xA, xA, xA, xA, xA, xA, xA, xA, xA, xA, xA, xA, xA, xA, xA, xA, xA, xA, xA, xA, xA, xA, xA, xA, xA, xA, xA, xA, xA, xA, xA, xA, xA, xA, xA, xA, xA, xA, xA, xA, xA, xA, xA, xA, xA, xA, xA, xA, xA, xA, xA, xA, xA, xA, xA, xA, xA, xA, xA, xA, xA, xA, xA, xA, xA, xA, xA, xA, xA, xA, xA, xA, xA, xA, xA, xA, xA, xA, xA, xA, xA, xA, xA, xA, xA, xA, xA, xA, .any]) (fun _ => [some (.box 77 (txC t))]) 0 [0]
  ⟨by simp, by simp⟩ (by simp [Ptr, I]) (by simp [txC, iC]) (by simp) (by simp) (by simp) ?_
 rintro i ⟨hi1, hn1⟩
 simp [Ptr, I, txC, iC]
 refine alt (fun hlt => ?_) (fun hlt => ?_)
 ·have hln : i < t.ins.length := by omega
  obtain ⟨p, hcp⟩ : ∃ p, t.ins[i]? = some p := ⟨t.ins[i], by simp [hln]⟩
  have hge : (inpv t.ins)[i]'(by simp [hln]) = inpF p := gE (inpv_get hcp)
  have hpo := h2 p (List.mgE hcp)
  simp
  refine eloop (α := Nat) (fun k => k ≤ i ∧ ∀ (j : Nat) (x : Inp), j < k → t.ins[j]? = some x → ptI p ≠ ptI x) (fun k => i - k)
   (fun k => [xA, Ptr 0, xA, xA, xA, I .i64 i, I .i64 k, xA, xA, xA, xA, xA, xA, xA, xA, xA, xA, xA, xA, xA, xA, xA, xA, xA, xA, xA, xA, xA, xA, xA, xA, xA, xA, xA, xA, xA, xA, xA, xA, xA, xA, xA, xA, xA, xA, xA, xA, xA, xA, xA, xA, xA, xA, xA, xA, xA, xA, xA, xA, xA, xA, xA, xA, xA, xA, xA, xA, xA, xA, xA, xA, xA, xA, xA, xA, xA, xA, xA, xA, xA, xA, xA, xA, xA, xA, xA, xA, xA, xA, xA, xA, xA, xA, xA, xA, xA, xA, xA, xA, xA, xA, xA, xA, xA, xA, xA, xA, xA, xA, xA, xA, xA, xA, xA, xA, xA, xA, xA, xA, xA, xA, xA, xA, xA, xA, xA, xA, xA, xA, xA, xA, xA, xA, xA, xA, xA, xA, xA, xA, xA, xA, xA, .any]) (fun _ => [some (.box 77 (txC t))]) 0 [0]
   ⟨by simp, by intro j x h; omega⟩ (by simp [Ptr, I]) (by simp [txC, iC]) (by simp) (by simp) (by simp) ?_
  rintro k ⟨hk1, hk2⟩
  simp [Ptr, I, txC, iC]
  refine alt (fun hlk => ?_) (fun hlk => ?_)
  ·have hkn : k < t.ins.length := by omega
   obtain ⟨q, hcq⟩ : ∃ q, t.ins[k]? = some q := ⟨t.ins[k], by simp [hkn]⟩
   have hgq : (inpv t.ins)[k]'(by simp [hkn]) = inpF q := gE (inpv_get hcq)
   have hqo := h2 q (List.mgE hcq)
   have lp := ic_len hpo.1
   have lq := ic_len hqo.1
   have fp := if_len hpo.1
   have fq := if_len hqo.1
   have pp := ic_pt hpo.1
   have pq := ic_pt hqo.1
   have kp := litK_pt hpo
   have kq := litK_pt hqo
   have kp' : litK (unrle [(32, .u8), (1, .i64)]) (hc p.tx ++ [EC.fz (FV.lit (Value.int IntKind.i64 p.n))]) = some (ptI p) := kp
   have kq' : litK (unrle [(32, .u8), (1, .i64)]) (hc q.tx ++ [EC.fz (FV.lit (Value.int IntKind.i64 q.n))]) = some (ptI q) := kq
   have w1 : IntKind.i64.wrap ((k : Int) + 1) = ((k + 1 : Nat) : Int) := wrap_i64 (by omega) (by omega)
   simp [hln, hkn, hge, hgq, inpF_fz, lp, lq, fp, fq, pp, pq, iC, kp', kq']
   refine alt (fun he => ?_) (fun he => ?_)
   ·have hnd : ¬ (t.ins.map ptI).Nodup := by
     intro h
     have := (List.pairwise_iff_getElem.1 h) k i (by simp; omega) (by simp; omega) (by omega)
     simp only [List.getElem_map] at this
     have e1 : t.ins[k] = q := by rw [List.getElem?_eq_getElem hkn] at hcq; exact Option.some.inj hcq
     have e2 : t.ins[i] = p := by rw [List.getElem?_eq_getElem hln] at hcp; exact Option.some.inj hcp
     rw [e1, e2] at this
     exact this he.symm
    rw [hv9, if_pos hnd]
    simp
    exact fin0
   ·simp [w1, -Int.natCast_add]
    refine round (k + 1) [0] ⟨by omega, ?_⟩ (by omega) (by simp [Ptr, I]) (by simp) (by simp) (by simp) (by simp)
    intro j x hj hx
    rcases Nat.lt_or_ge j k with g | g
    ·exact hk2 j x g hx
    ·obtain rfl : j = k := by omega
     rw [hcq] at hx
     obtain rfl := Option.some.inj hx
     exact he
  ·have hki : k = i := by omega
   subst hki
   have w1 : IntKind.i64.wrap ((k : Int) + 1) = ((k + 1 : Nat) : Int) := wrap_i64 (by omega) (by omega)
   have hn2 : ((t.ins.take (k + 1)).map ptI).Nodup := by
    rw [take_s hcp, List.map_append, List.map_singleton, List.nodup_append]
    refine ⟨hn1, by simp, ?_⟩
    intro a ha b hb
    simp at hb; subst hb
    obtain ⟨x, hx, rfl⟩ := List.mem_map.1 ha
    obtain ⟨j, hj⟩ := List.getElem?_of_mem hx
    rw [List.getElem?_take] at hj
    split at hj
    ·rename_i hjk
     exact fun e => hk2 j x hjk hj e.symm
    ·simp at hj
   simp [w1, -Int.natCast_add]
   exact round (k + 1) [0] ⟨by omega, by rw [← List.map_take]; exact hn2⟩ (by omega) (by simp [Ptr, I]) (by simp) (by simp) (by simp) (by simp)
 have hil : i = t.ins.length := by omega
 subst hil
 rw [List.take_length] at hn1
 rw [hv9, if_neg (by simpa using hn1)]
 obtain ⟨V, hV⟩ : ∃ V, (if outsE t.outs ≠ 0 then outsE t.outs else (totO 0 t.outs).2) = V := ⟨_, rfl⟩
 rw [hV]
 clear hi1 hlt
 simp
 refine eloop (α := Nat) (fun i => i ≤ t.outs.length ∧ outsE t.outs = outsE (t.outs.drop i)) (fun i => t.outs.length - i)
  (fun i => [xA, Ptr 0, xA, xA, xA, xA, xA, I .i64 i, xA, xA, xA, xA, xA, xA, xA, xA, xA, xA, xA, xA, xA, xA, xA, xA, xA, xA, xA, xA, xA, xA, xA, xA, xA, xA, xA, xA, xA, xA, xA, xA, xA, xA, xA, xA, xA, xA, xA, xA, xA, xA, xA, xA, xA, xA, xA, xA, xA, xA, xA, xA, xA, xA, xA, xA, xA, xA, xA, xA, xA, xA, xA, xA, xA, xA, xA, xA, xA, xA, xA, xA, xA, xA, xA, xA, xA, xA, xA, xA, xA, xA, xA, xA, xA, xA, xA, xA, xA, xA, xA, xA, xA, xA, xA, xA, xA, xA, xA, xA, xA, xA, xA, xA, xA, xA, xA, xA, xA, xA, xA, xA, xA, xA, xA, xA, xA, xA, xA, xA, xA, xA, xA, xA, xA, xA, xA, xA, xA, xA, xA, xA, xA, xA, .any]) (fun _ => [some (.box 77 (txC t))]) 0 [0]
  ⟨by simp, by simp⟩ (by simp [I, Ptr]) (by simp [txC, iC]) (by simp) (by simp) (by simp) ?_
 rintro i ⟨hi1, hi2'⟩
 simp [I, Ptr, txC, iC]
 refine alt (fun hlt => ?_) (fun hlt => ?_)
 ·have hln : i < t.outs.length := by omega
  obtain ⟨p, hcp⟩ : ∃ p, t.outs[i]? = some p := ⟨t.outs[i], by simp [hln]⟩
  have hge : (outv t.outs)[i]'(by simp [hln]) = outF p := gE (outv_get hcp)
  have hpo := h3 p (List.mgE hcp)
  rw [drop_cons hcp] at hi2'
  have w1 := wS (i := i) (by omega)
  have hbad : ouE p ≠ 0 → V = ouE p := fun q => by
   have hn : outsE t.outs = ouE p := by rw [hi2']; exact if_pos q
   rw [← hV, if_pos (by rw [hn]; exact q), hn]
  simp [hln, hge, outF, iF]
  by_cases g1 : p.am < 10
  ·have g1' : ¬ 10 ≤ p.am := by omega
   have hou : ouE p = 27 := if_pos g1
   rw [hbad (by omega), hou]
   simp [g1, g1']
   exact fin0
  have g1' : 10 ≤ p.am := by omega
  by_cases g2 : 1125899906842624 < p.am
  ·have g2' : ¬ p.am ≤ 1125899906842624 := by omega
   have hou : ouE p = 5 := by unfold ouE; rw [if_neg g1, if_pos g2]
   rw [hbad (by omega), hou]
   simp [g1, g1', g2, g2', hln, hge, outF, iF]
   exact fin0
  have g2' : p.am ≤ 1125899906842624 := by omega
  have hou : ouE p = cnE p.cs := by unfold ouE; rw [if_neg g1, if_neg g2]
  simp [g1, g1', g2, g2', hln, hge, outF, iF]
  refine call0 (RCCheck_ok p.cs hpo.2.1 hpo.2.2) (by simp [CNv]) ?_
  rintro y H' ⟨rfl, rfl⟩
  refine ⟨.inl (by simp [I]), le_ok rfl, ?_⟩
  by_cases c7 : cnE p.cs = 0
  ·have hn : outsE t.outs = outsE (t.outs.drop (i + 1)) := by rw [hi2']; exact if_neg (by rw [hou]; simpa using c7)
   simp [I, c7, w1, -Int.natCast_add]
   exact round (i + 1) [0] ⟨by omega, hn⟩ (by omega) (by simp [I, Ptr]) (by simp) (by simp) (by simp) (by simp)
  ·rw [hbad (by rw [hou]; exact c7), hou]
   simp [I, c7]
   exact fin0
 have hil : i = t.outs.length := by omega
 subst hil
 rw [List.drop_length] at hi2'
 have hz0 : outsE t.outs = 0 := hi2'
 rw [show V = (totO 0 t.outs).2 by rw [← hV, if_neg (by simpa using hz0)]]
 simp
 refine call0 (RTxTotal_ok t ht) (by simp [TXv, txC, iC]) ?_
 rintro y H' ⟨rfl, rfl⟩
 refine ⟨.inl (by simp [iC]), le_ok rfl, ?_⟩
 simp [iC]
 exact fin0
def ylhe : UL | _ => [xF 6 12 76 1, xQ 7 13 (.iad 3 1 (.t 12) (xK 2)), xL 8 14 13, xM 9 3 8, xM 10 4 11, xM 11 5 14]
def ylhf : UL | _ => xF 0 6 76 1 :: xQ 1 7 (.iad 3 1 (.t 6) (xK 0)) :: xL 2 8 7 :: xF 3 9 76 1 :: xQ 4 10 (.iad 3 1 (.t 9) (xK 1)) :: xL 5 11 10 :: hid ylhe
def ylhg : UL | _ => [xG 42 58 52 false (.un .not (.t 57)), xP 43 59 52 58, xM 44 15 59]
def ylhh : UL | _ => xM 36 52 51 :: yF 37 53 52 false 38 1 :: xG 38 54 52 false (.lda 38 (.t 53)) :: yM 39 55 52 false 4 :: yM 40 56 52 false 5 :: ⟨41, (some 57), (some (52, false)), (.call 50 [.t 54, .t 55, .t 56]), []⟩ :: hid ylhg
def ylhi : UL | _ => xG 30 46 44 false (.lda 38 (.t 45)) :: yM 31 47 44 false 3 :: yM 32 48 44 false 4 :: ⟨33, (some 49), (some (44, false)), (.call 50 [.t 46, .t 47, .t 48]), []⟩ :: xG 34 50 44 false (.un .not (.t 49)) :: xP 35 51 44 50 :: hid ylhh
def ylhj : UL | _ => yM 24 40 39 false 3 :: yM 25 41 39 false 5 :: xG 26 42 39 false (.bin .eql (.t 40) (.t 41)) :: xP 27 43 39 42 :: xM 28 44 43 :: yF 29 45 44 false 0 1 :: hid ylhi
def ylhk : UL | _ => xM 18 34 33 :: yM 19 35 34 false 4 :: yM 20 36 34 false 5 :: xG 21 37 34 false (.bin .eql (.t 35) (.t 36)) :: xP 22 38 34 37 :: xM 23 39 38 :: hid ylhj
def ylhl : UL | _ => xP 12 28 24 27 :: xM 13 29 28 :: yM 14 30 29 false 3 :: yM 15 31 29 false 4 :: xG 16 32 29 false (.bin .eql (.t 30) (.t 31)) :: xP 17 33 29 32 :: hid ylhk
def ylhm : UL | _ => xG 6 22 19 false (.un .not (.t 21)) :: xP 7 23 19 22 :: xM 8 24 23 :: yM 9 25 24 false 5 :: ⟨10, (some 26), (some (24, false)), (.call 49 [.t 25]), []⟩ :: xG 11 27 24 false (.un .not (.t 26)) :: hid ylhl
def ylhn : UL | _ => xM 0 16 3 :: xO 1 17 (.call 49 [.t 16]) :: xQ 2 18 (.un .not (.t 17)) :: xM 3 19 18 :: yM 4 20 19 false 4 :: ⟨5, (some 21), (some (19, false)), (.call 49 [.t 20]), []⟩ :: hid ylhm
def ylhp : UL | _ => [xP 12 74 70 73, xM 13 61 74]
def ylhq : UL | _ => xG 6 68 65 false (.bin .gtr (.t 67) (xK 1125899906842624)) :: xP 7 69 65 68 :: xM 8 70 69 :: yF 9 71 70 false 79 1 :: yL 10 72 70 false 71 :: xG 11 73 70 false (.bin .gtr (.t 72) (xK 1125899906842624)) :: hid ylhp
def ylhr : UL | _ => xF 0 62 80 1 :: xL 1 63 62 :: xc 2 64 .lss 63 0 :: xM 3 65 64 :: yF 4 66 65 false 80 1 :: yL 5 67 65 false 66 :: hid ylhq
def ylht : UL | _ => [xM 6 76 82]
def ylhu : UL | _ => xF 0 77 79 1 :: xL 1 78 77 :: xF 2 79 80 1 :: xL 3 80 79 :: xQ 4 81 (.bin .add (xK 10) (.t 80)) :: xb 5 82 .lss 78 81 :: hid ylht
def ybhx : UB | _ => .seq (reg0 (hid ylhr) 14) (.cond (.t 61) (.seq (reg0 [xQ 0 75 (.mki 132 (xK 1)), xM 1 2 75] 2) .ret) (.seq (reg0 (hid ylhu) 7) (.cond (.t 76) (.seq (reg0 [xQ 0 83 (.mki 132 (xK 27)), xM 1 2 83] 2) .ret) .skip)))
def ybhy : UB | _ => .seq (reg0 (hid ylhn) 45) (.cond (.t 15) (.seq (reg0 [xQ 0 60 (.mki 132 (xK 33)), xM 1 2 60] 2) .ret) (hid ybhx))
def ybi0 : UB | _ => .seq (.block 0 (hid ybhy)) (.seq (reg0 [xQ 0 2 (.mov (.k .nilIface))] 1) .ret)
def ybi1 : UB | _ => .seq (reg0 [xW 0 1 44 0, xQ 1 2 (.mov (.k .nilIface))] 2) (.seq (reg0 (hid ylhf) 12) (hid ybi0))
attribute [simp] ylhe ylhf ylhg ylhh ylhi ylhj ylhk ylhl ylhm ylhn ylhp ylhq ylhr ylht ylhu ybhx ybhy ybi0 ybi1
def c_VCheck : EB × List QOp × Nat := ((hid ybi1), [(.mov (.t 2))], 84)
theorem k_VCheck : cfun Tryz.prog 15 = some c_VCheck := by kernel_rfl
def prtV (r : Rte) : Prop := (0 ≤ r.a ∧ r.a < 16) ∧ (0 ≤ r.b ∧ r.b < 16) ∧ (0 ≤ r.c ∧ r.c < 16) ∧ ¬ r.a = r.b ∧ ¬ r.b = r.c ∧ ¬ r.a = r.c ∧ ofV r.f r.a r.b = true ∧ ofV r.s r.b r.c = true
instance (r : Rte) : Decidable (prtV r) := by unfold prtV; infer_instance
def chkV (r : Rte) : Nat := if ¬ prtV r then 33 else if r.fe < 0 ∨ 1125899906842624 < r.fe ∨ 1125899906842624 < r.am then 1 else if r.am < 10 + r.fe then 27 else 0
@[simp] theorem errV_33v : Value.iface 132 (.int .i64 33) = errV 33 := rfl
@[simp] theorem errV_27v : Value.iface 132 (.int .i64 27) = errV 27 := rfl
theorem VCheck_ok (r : Rte) (hr : r.ok) : ECalls Tryz.prog 15 [RVv r] [] fun y H' => H' = [] ∧ y = .lit (errV (chkV r)) := by
 obtain ⟨⟨h1, _⟩, ⟨h2, _⟩, ⟨ha0, ha1⟩, ⟨hb0, hb1⟩, ⟨hc0, hc1⟩, ⟨hm0, hm1⟩, ⟨hf0, hf1⟩⟩ := id hr
 have l0 := rteC_len h1 h2
 have t0 := rt_take h1 h2
 have g76 := rt_76 h1 h2
 have g77 := rt_77 h1 h2
 have g78 := rt_78 h1 h2
 have g79 := rt_79 h1 h2
 have g80 := rt_80 h1 h2
 have t38 := rt_t38 h1
 have s38 := rt_s38 h1 h2
 have e76 := idx_of g76 (by omega)
 have e77 := idx_of g77 (by omega)
 have e78 := idx_of g78 (by omega)
 have e79 := idx_of g79 (by omega)
 have e80 := idx_of g80 (by omega)
 refine ecalls k_VCheck ?_
 simp [c_VCheck, RVv, I, l0, t0, e76, e77, e78, e79, e80, iC, -errV_0]
 refine call0 (Vparty_ok r.a) (by simp [I]) ?_
 rintro y H' ⟨rfl, rfl⟩
 refine ⟨.inl (by simp), le_ok rfl, ?_⟩
 by_cases q0 : 0 ≤ r.a ∧ r.a < 16
 rotate_left
 ·have hv : chkV r = 33 := by unfold chkV; rw [if_pos (fun h => q0 h.1)]
  rw [hv, decide_eq_false q0]
  simp [l0, t0, e76, e77, e78, e79, e80, t38, s38, iC, -errV_0]
  exact fin0
 rw [decide_eq_true q0]
 simp [l0, t0, e76, e77, e78, e79, e80, t38, s38, iC, -errV_0]
 refine call0 (Vparty_ok r.b) (by simp [I]) ?_
 rintro y H' ⟨rfl, rfl⟩
 refine ⟨.inl (by simp), le_ok rfl, ?_⟩
 by_cases q1 : 0 ≤ r.b ∧ r.b < 16
 rotate_left
 ·have hv : chkV r = 33 := by unfold chkV; rw [if_pos (fun h => q1 h.2.1)]
  rw [hv, decide_eq_false q1]
  simp [l0, t0, e76, e77, e78, e79, e80, t38, s38, iC, -errV_0]
  exact fin0
 rw [decide_eq_true q1]
 simp [l0, t0, e76, e77, e78, e79, e80, t38, s38, iC, -errV_0]
 refine call0 (Vparty_ok r.c) (by simp [I]) ?_
 rintro y H' ⟨rfl, rfl⟩
 refine ⟨.inl (by simp), le_ok rfl, ?_⟩
 by_cases q2 : 0 ≤ r.c ∧ r.c < 16
 rotate_left
 ·have hv : chkV r = 33 := by unfold chkV; rw [if_pos (fun h => q2 h.2.2.1)]
  rw [hv, decide_eq_false q2]
  simp [l0, t0, e76, e77, e78, e79, e80, t38, s38, iC, -errV_0]
  exact fin0
 rw [decide_eq_true q2]
 simp [l0, t0, e76, e77, e78, e79, e80, t38, s38, iC, -errV_0]
 by_cases q3 : r.a = r.b
 ·have hv : chkV r = 33 := by unfold chkV; rw [if_pos (fun h => h.2.2.2.1 q3)]
  rw [hv]
  simp [l0, t0, e76, e77, e78, e79, e80, t38, s38, iC, q3, -errV_0]
  exact fin0
 simp [l0, t0, e76, e77, e78, e79, e80, t38, s38, iC, q3, -errV_0]
 by_cases q4 : r.b = r.c
 ·have hv : chkV r = 33 := by unfold chkV; rw [if_pos (fun h => h.2.2.2.2.1 q4)]
  rw [hv]
  simp [l0, t0, e76, e77, e78, e79, e80, t38, s38, iC, q3, q4, -errV_0]
  exact fin0
 simp [l0, t0, e76, e77, e78, e79, e80, t38, s38, iC, q3, q4, -errV_0]
 by_cases q5 : r.a = r.c
 ·have hv : chkV r = 33 := by unfold chkV; rw [if_pos (fun h => h.2.2.2.2.2.1 q5)]
  rw [hv]
  simp [l0, t0, e76, e77, e78, e79, e80, t38, s38, iC, q3, q4, q5, -errV_0]
  exact fin0
 simp [l0, t0, e76, e77, e78, e79, e80, t38, s38, iC, q3, q4, q5, -errV_0]
 refine call0 (Vof_ok r.f r.a r.b h1) (by simp [PVv, I]) ?_
 rintro y H' ⟨rfl, rfl⟩
 refine ⟨.inl (by simp), le_ok rfl, ?_⟩
 by_cases q6 : ofV r.f r.a r.b = true
 rotate_left
 ·have hv : chkV r = 33 := by unfold chkV; rw [if_pos (fun h => q6 h.2.2.2.2.2.2.1)]
  have q6' : ofV r.f r.a r.b = false := by simpa using q6
  rw [hv, q6']
  simp [l0, t0, e76, e77, e78, e79, e80, t38, s38, iC, q3, q4, q5, -errV_0]
  exact fin0
 rw [q6]
 simp [l0, t0, e76, e77, e78, e79, e80, t38, s38, iC, q3, q4, q5, -errV_0]
 refine call0 (Vof_ok r.s r.b r.c h2) (by simp [PVv, I]) ?_
 rintro y H' ⟨rfl, rfl⟩
 refine ⟨.inl (by simp), le_ok rfl, ?_⟩
 by_cases q7 : ofV r.s r.b r.c = true
 rotate_left
 ·have hv : chkV r = 33 := by unfold chkV; rw [if_pos (fun h => q7 h.2.2.2.2.2.2.2)]
  have q7' : ofV r.s r.b r.c = false := by simpa using q7
  rw [hv, q7']
  simp [l0, t0, e76, e77, e78, e79, e80, t38, s38, iC, q3, q4, q5, -errV_0]
  exact fin0
 rw [q7]
 simp [l0, t0, e76, e77, e78, e79, e80, t38, s38, iC, q3, q4, q5, -errV_0]
 have hp : ¬ ¬ prtV r := fun h => h ⟨q0, q1, q2, q3, q4, q5, q6, q7⟩
 by_cases z0 : r.fe < 0
 ·have hv : chkV r = 1 := by unfold chkV; rw [if_neg hp, if_pos (.inl z0)]
  have z0n : ¬ 0 ≤ r.fe := by omega
  rw [hv]
  simp [l0, t0, e76, e77, e78, e79, e80, t38, s38, iC, z0, z0n, -errV_0]
  exact fin0
 have z0p : 0 ≤ r.fe := by omega
 by_cases z1 : 1125899906842624 < r.fe
 ·have hv : chkV r = 1 := by unfold chkV; rw [if_neg hp, if_pos (.inr (.inl z1))]
  rw [hv]
  simp [l0, t0, e76, e77, e78, e79, e80, t38, s38, iC, z0, z0p, z1, -errV_0]
  exact fin0
 have z1p : r.fe ≤ 1125899906842624 := by omega
 by_cases z2 : 1125899906842624 < r.am
 ·have hv : chkV r = 1 := by unfold chkV; rw [if_neg hp, if_pos (.inr (.inr z2))]
  rw [hv]
  simp [l0, t0, e76, e77, e78, e79, e80, t38, s38, iC, z0, z0p, z1, z1p, z2, -errV_0]
  exact fin0
 have z2p : r.am ≤ 1125899906842624 := by omega
 have w1 : IntKind.i64.wrap (10 + r.fe) = 10 + r.fe := wrap_i64 (by omega) (by omega)
 by_cases z3 : r.am < 10 + r.fe
 ·have hv : chkV r = 27 := by unfold chkV; rw [if_neg hp, if_neg (by omega), if_pos z3]
  rw [hv]
  simp [l0, t0, e76, e77, e78, e79, e80, t38, s38, iC, z0, z0p, z1, z1p, z2, z2p, w1, z3, -errV_0]
  exact fin0
 have z3p : 10 + r.fe ≤ r.am := by omega
 have hv : chkV r = 0 := by unfold chkV; rw [if_neg hp, if_neg (by omega), if_neg z3]
 rw [hv]
 simp [l0, t0, e76, e77, e78, e79, e80, t38, s38, iC, z0, z0p, z1, z1p, z2, z2p, w1, z3, z3p, -errV_0]
 exact fin0
def yli6 : UL | _ => [xM 0 11 1, xM 1 12 0, xM 2 13 5, xI 3 14 1 12 13, xL 4 15 14, xb 5 16 .eql 11 15]
def ybib : UB | _ => .seq (reg0 [xb 0 9 .lss 8 7] 1) (.seq (.cond (.t 9) .skip (.exit 0)) (.seq (.block 1 (.seq (reg0 [xM 0 10 8, xM 1 5 10] 2) (.seq (reg0 (hid yli6) 6) (.cond (.t 16) (.seq (reg0 [xM 0 17 5, xM 1 4 17] 2) .ret) .skip)))) (reg0 [xc 0 18 .add 8 1, xM 1 8 18] 2)))
def ybid : UB | _ => .seq (.seq (reg0 [xM 0 6 0, xE 1 7 6, xC 2 8 0] 3) (.block 0 (.loop (hid ybib)))) (.seq (reg0 [xQ 0 4 (.mov (.k (.int .i64 (-1))))] 1) .ret)
def ybie : UB | _ => .seq (reg0 [xC 0 4 0] 1) (hid ybid)
attribute [simp] yli6 ybib ybid ybie
def c_IdxI : EB × List QOp × Nat := ((hid ybie), [(.mov (.t 4))], 19)
theorem k_IdxI : cfun Tryz.prog 56 = some c_IdxI := by kernel_rfl
def ybig : UB | _ => reg0 [xW 0 2 42 0, xC 1 4 0, xQ 2 5 (.mov (.k .nilIface))] 3
def ylih : UL | _ => [xF 0 7 34 2, xQ 1 8 (.sar 2 (.t 7) none none), xM 2 9 1, xO 3 10 (.call 56 [.t 8, .t 9]), xM 4 6 10]
def ybii : UB | _ => reg0 (hid ylih) 5
def ybik : UB | _ => reg0 [xM 0 11 6, xc 1 12 .lss 11 0] 2
def ybim : UB | _ => reg0 [xQ 0 13 (.mki 132 (xK 33)), xC 1 4 0, xM 2 5 13] 3
def ybio : UB | _ => reg0 [xM 0 14 6, xM 1 4 14, xQ 2 5 (.mov (.k .nilIface))] 3
def yliq : UL | _ => [⟨6, (some 10), none, (.call 56 [.t 6, .t 9]), [7, 8, 9, 10, 11, 12]⟩, xO 13 17 (.call 56 [.t 13, .t 16]), xM 14 2 10, xM 15 3 17]
def ylir : UL | _ => xF 7 11 38 1 :: xF 8 12 34 11 :: xQ 9 13 (.sar 2 (.t 12) none none) :: xF 10 14 76 1 :: xQ 11 15 (.iad 3 1 (.t 14) (xK 1)) :: xL 12 16 15 :: hid yliq
def ylis : UL | _ => xF 0 4 0 1 :: xF 1 5 34 4 :: xQ 2 6 (.sar 2 (.t 5) none none) :: xF 3 7 76 1 :: xQ 4 8 (.iad 3 1 (.t 7) (xK 0)) :: xL 5 9 8 :: hid ylir
def ybit : UB | _ => .seq (reg0 [xW 0 1 44 0, xC 1 2 0, xC 2 3 0] 3) (.seq (reg1 (hid ylis) 16) .ret)
attribute [simp] ybig ylih ybii ybik ybim ybio yliq ylir ylis ybit
def c_Vsides : EB × List QOp × Nat := ((hid ybit), [(.mov (.t 2)), (.mov (.t 3))], 18)
theorem k_Vsides : cfun Tryz.prog 41 = some c_Vsides := by kernel_rfl
def yliv : UL | _ => [xF 0 6 76 2, xQ 1 7 (.sar 3 (.t 6) none none), xO 2 8 (.call 76 [.t 7]), xM 3 5 8]
def ylix : UL | _ => [xM 0 11 1, xF 1 12 79 2, xL 2 13 12, xM 3 14 5, xQ 4 15 (.build [xZ, xZ, xS] [(0, 1, .t 11), (1, 1, .t 13), (2, 1, .t 14)]), xN 5 (.fz (.sto 3 (.t 4) (.t 15)))]
def ybiz : UB | _ => .seq (reg0 [xW 0 2 44 0, xQ 1 4 (.alloc 124 [xZ, xZ, xS])] 2) (.seq (reg0 (hid yliv) 4) (.seq (reg0 [xM 0 9 5, xO 1 10 (.call 77 [.t 9])] 2) (.seq (reg0 (hid ylix) 6) .ret)))
attribute [simp] yliv ylix ybiz
def c_Vhold : EB × List QOp × Nat := ((hid ybiz), [(.lda 3 (.t 4))], 16)
theorem k_Vhold : cfun Tryz.prog 43 = some c_Vhold := by kernel_rfl
def sid (a b x : Int) : Int := if a = x then 0 else if b = x then 1 else -1
theorem IdxI_ok (a b x : Int) : ECalls Tryz.prog 56 [IL [a, b], I .i64 x] [] fun y H' => H' = [] ∧ y = I .i64 (sid a b x) := by
 refine ecalls k_IdxI ?_
 simp [c_IdxI, IL, I]
 refine eloop (α := Nat) (fun i => i ≤ 2 ∧ (0 < i → ¬ a = x) ∧ (1 < i → ¬ b = x)) (fun i => 2 - i) (fun i => [IL [a, b], I .i64 x, .any, .any, .any, .any, .any, I .i64 2, I .i64 i, .any, .any, .any, .any, .any, .any, .any, .any, .any, .any]) (fun _ => []) 0 []
  ⟨by omega, by omega, by omega⟩ (by simp [I, IL]) (by simp) (by simp) (by simp) (by simp) ?_
 rintro i ⟨hi, h0, h1⟩
 rcases (by omega : i = 0 ∨ i = 1 ∨ i = 2) with rfl | rfl | rfl
 ·by_cases ha : a = x
  ·have hv : sid a b x = 0 := if_pos ha
   rw [hv]
   subst ha
   simp [I, IL, intv]
   exact fin0
  ·have ha' : ¬ x = a := fun h => ha h.symm
   have w : IntKind.i64.wrap 1 = 1 := by decide +kernel
   simp [I, IL, intv, ha', w]
   exact round 1 [] ⟨by omega, fun _ => ha, by omega⟩ (by omega) (by simp [I, IL, intv]) (by simp) (by simp) (by simp) (by simp)
 ·have ha := h0 (by omega)
  by_cases hb : b = x
  ·have hv : sid a b x = 1 := by unfold sid; rw [if_neg ha, if_pos hb]
   rw [hv]
   subst hb
   simp [I, IL, intv]
   exact fin0
  ·have hb' : ¬ x = b := fun h => hb h.symm
   have w : IntKind.i64.wrap (1 + 1) = 2 := by decide +kernel
   have w2 : IntKind.i64.wrap 2 = 2 := by decide +kernel
   simp [I, IL, intv, hb', w, w2]
   exact round 2 [] ⟨by omega, fun _ => ha, fun _ => hb⟩ (by omega) (by simp [I, IL, intv]) (by simp) (by simp) (by simp) (by simp)
 ·have ha := h0 (by omega)
  have hb := h1 (by omega)
  have hv : sid a b x = -1 := by unfold sid; rw [if_neg ha, if_neg hb]
  rw [hv]
  simp [I, IL]
  exact fin0
theorem Vsides_ok (r : Rte) (hr : r.ok) : ECalls Tryz.prog 41 [RVv r] [] fun y H' => H' = [] ∧ y = .tup [.c (iC (sid r.f.k0 r.f.k1 r.a)), .c (iC (sid r.s.k0 r.s.k1 r.b))] := by
 obtain ⟨⟨h1, _⟩, ⟨h2, _⟩, _⟩ := id hr
 have l0 := rteC_len h1 h2
 have t0 := rt_take h1 h2
 have e76 := idx_of (rt_76 h1 h2) (by omega)
 have e77 := idx_of (rt_77 h1 h2) (by omega)
 have k1 := rt_k1 h1
 have k2 := rt_k2 h1 h2
 refine ecalls k_Vsides ?_
 simp [c_Vsides, RVv, I, l0, t0, e76, e77, iC]
 refine call0 (IdxI_ok r.f.k0 r.f.k1 r.a) (by simp [IL, I, l0, k1, iC, intv]) ?_
 rintro y H' ⟨rfl, rfl⟩
 refine ⟨.inr ⟨rfl, by simp⟩, le_ok rfl, ?_⟩
 simp [I, l0, t0, e76, e77, iC]
 refine call0 (IdxI_ok r.s.k0 r.s.k1 r.b) (by simp [IL, I, l0, k2, iC, intv]) ?_
 rintro y H' ⟨rfl, rfl⟩
 refine ⟨.inr ⟨rfl, by simp⟩, le_ok rfl, ?_⟩
 simp [I]
 exact fin0
def holV (r : Rte) (id' : Int) : Hol := ⟨id', r.am, srt [r.a, r.b, r.c]⟩
theorem Vhold_ok (r : Rte) (id' : Int) (hr : r.ok) : ECalls Tryz.prog 43 [RVv r, I .i64 id'] [] fun y H' => H' = [some (.row 3 1 (intv (srt [r.a, r.b, r.c])))] ∧ y = .v (.agg [iC id', iC r.am, .row 0 3]) := by
 obtain ⟨⟨h1, _⟩, ⟨h2, _⟩, _⟩ := id hr
 have l0 := rteC_len h1 h2
 have t0 := rt_take h1 h2
 have e79 := idx_of (rt_79 h1 h2) (by omega)
 have d76 := rt_d76 h1 h2
 have hso := SortI_ok [r.a, r.b, r.c] rfl
 have hcl := cloneI_ok [r.a, r.b, r.c] (by simp)
 refine ecalls k_Vhold ?_
 simp [c_Vhold, RVv, I, l0, t0, e79, iC]
 refine call0 hcl (by simp [IL, l0, d76, frzAll, frz, iC, intv]) ?_
 rintro y H' ⟨rfl, rfl⟩
 refine ⟨.inr ⟨rfl, by simp [intv]⟩, by simp, ?_⟩
 simp
 refine callH [64] hso (by simp) (by simp) (by simp) (by simp) (by simp) ?_
 rintro y H' ⟨rfl, rfl⟩
 refine ⟨.inl (by simp), by simp, ?_⟩
 simp [e79, l0, iC]
 exact fin [64] (by decide) rfl rfl rfl ⟨rfl, rfl⟩
end Go.Proofs.YtejjhgdnmknejaaGreatDoor
set_option linter.unusedVariables false
set_option linter.unusedSimpArgs false
namespace Go.Proofs.YtejjhgdnmknejaaGreatDoor
open Go.RowKit Go.Lib Go.EW
namespace InsH
theorem elem : ∃ ti z, ElemT Tryz.prog 47 124 3 40 ti z := elemT_of (by kernel_rfl) (by kernel_rfl) (by kernel_rfl) (by kernel_rfl) (by decide)
theorem fov (w : World) (a b : Value) : (callFunc 154 #[a, b]).run Tryz.prog w = ((Extern.SlicesOverlaps.overlaps #[47, 47] #[4] #[a, b]).run Tryz.prog w).andThen fun v w' => .ok (.value v) w' := by
 rw [run_callFunc_extern Tryz.func154 (by kernel_rfl) (by kernel_rfl) (by kernel_rfl) (e := Extern.SlicesOverlaps.overlaps #[47, 47] #[4]) (by kernel_rfl)]
set_option maxRecDepth 100000 in
theorem shift : InsShift Tryz.prog 92 154 47 3 := by
 intro g n c i vb mc W1 W2 w hi hroom hc63 hov hc1 hc2
 have hz2 : ¬ ((i : Int) = (n : Int)) := by omega
 have hw1 : IntKind.i64.wrap ((i : Int) + 1) = (i : Int) + 1 := by rw [IntKind.wrap_i64]; omega
 have hw2 : IntKind.i64.wrap ((n : Int) + 1) = (n : Int) + 1 := by rw [IntKind.wrap_i64]; omega
 have hb1 : (0 : Int) ≤ (i : Int) + 1 := by omega
 have hin : i ≤ n := by omega
 have htn : ((i : Int) + 1).toNat = i + 1 := by omega
 have hb2 : ¬ (c = i + 1) := by omega
 have hb3 : (i : Int) ≤ (n : Int) + 1 := by omega
 have hb4 : ¬ (c = i) := by omega
 go_enter Tryz.func92, Tryz.ntmps92
 go_wp2_with (simp only [hov])
 go_region_law (refine step_copy_runI rfl _ _ 47 47 rfl _ _ (by simp [Act.eval, Act.put]) (by simp [Act.eval, Act.put]) (hc1 _) ?_)
 go_wp2_with (at_builtin; refine wpList_copy_runI _ rfl _ _ 47 47 rfl _ _ rfl rfl (hc2 _) ?_)
 go_ret
 exact ⟨rfl, rfl⟩
set_option maxRecDepth 100000 in
theorem atEnd : InsEnd Tryz.prog 92 47 := by
 intro base n c vb m mc v' w W1 hnc hm hap
 have hz1 : ¬ ((m : Int) = 0) := by omega
 go_enter Tryz.func92, Tryz.ntmps92
 cases base with
 | none =>
  go_wp2_with (at_builtin; refine Lib.wpList_append_run _ rfl _ _ _ _ rfl _ _ rfl rfl _ _ hap ?_)
  go_ret
  exact ⟨rfl, rfl⟩
 | some a =>
  obtain ⟨ab, ao, asp⟩ := a
  go_wp2_with (at_builtin; refine Lib.wpList_append_run _ rfl _ _ _ _ rfl _ _ rfl rfl _ _ hap ?_)
  all_goals (go_ret; exact ⟨rfl, rfl⟩)
set_option maxRecDepth 100000 in
theorem grow : InsGrow Tryz.prog 92 47 3 3 := by
 intro g n c i vb mc g2 C W1 W2 W3 w hi hnc hroom hc63 hC hC63 hap hc1 hc2
 have hz2 : ¬ ((i : Int) = (n : Int)) := by omega
 have hz3 : (c : Int) < (n : Int) + 1 := by omega
 have hw1 : IntKind.i64.wrap ((i : Int) + 1) = (i : Int) + 1 := by rw [IntKind.wrap_i64]; omega
 have hw2 : IntKind.i64.wrap ((n : Int) + 1) = (n : Int) + 1 := by rw [IntKind.wrap_i64]; omega
 have hw3 : IntKind.i64.wrap ((n : Int) + 1 - (i : Int)) = (n : Int) + 1 - (i : Int) := by rw [IntKind.wrap_i64]; omega
 have hb1 : (0 : Int) ≤ (i : Int) + 1 := by omega
 have hin : i ≤ n := by omega
 have htn : ((i : Int) + 1).toNat = i + 1 := by omega
 have hb2 : ¬ (C = i + 1) := by omega
 have hb3 : (i : Int) ≤ (n : Int) := by omega
 have hb4 : ¬ (C = i) := by omega
 have hb5 : ¬ (c = i) := by omega
 have hb6 : (i : Int) ≤ (n : Int) + 1 := by omega
 go_enter Tryz.func92, Tryz.ntmps92
 go_wp2_with (first
  | (at_builtin; refine Lib.wpList_append_run _ rfl _ _ _ _ rfl _ _ rfl rfl _ _ (hap _) ?_)
  | (at_builtin; refine wpList_copy_runI _ rfl _ _ 47 47 rfl _ _ rfl rfl (hc1 _) ?_))
 go_region_law (refine step_copy_runI rfl _ _ 47 47 rfl _ _ (by simp [Act.eval, Act.put]) (by simp [Act.eval, Act.put]) (hc2 _) ?_)
 go_wp2
 go_ret
 exact ⟨rfl, rfl⟩
theorem ins_ok (xs : List (List FV)) (x : List FV) (i : Nat) (hin : i ≤ xs.length) (hn : xs.length + 1 ≤ 10000000) :
  ECalls Tryz.prog 92 [.v (.c (.row 0 xs.length)), .lit (.int .i64 i), .v (.c (.row 1 1))] [.row 124 3 xs, .row 124 3 [x]] fun y H' =>
   H' = [none, some (.row 124 3 [x]), some (.row 124 3 (xs.take i ++ x :: xs.drop i))] ∧ y = .v (.c (.row 2 (xs.length + 1))) := by
 obtain ⟨ti, z, E⟩ := elem
 exact ins_ecalls E (by kernel_rfl) shift atEnd grow fov xs x i hin (by omega) (by omega)
set_option maxRecDepth 100000 in
theorem del1 : DelOne Tryz.prog 167 47 3 := by
 intro g n c i j k A W1 W2 w hj hk hi hnc hc63 hA hap hcl
 have hz2 : ¬ ((i : Int) = (j : Int)) := by omega
 have hb1 : (i : Int) ≤ (j : Int) := by omega
 have hb2 : (j : Int) ≤ (n : Int) := by omega
 have hin : i ≤ n := by omega
 have hic : i ≤ c := by omega
 have hjc : j ≤ c := by omega
 have hb3 : (k : Int) ≤ (n : Int) := by omega
 have hb4 : ¬ (c = k) := by omega
 have hb5 : (n : Int) ≤ (c : Int) := by omega
 clear hj hk
 go_enter Tryz.func167, Tryz.ntmps167
 go_wp2_with fail
 go_region_law (refine step_append_runI rfl _ _ 47 47 rfl _ _ (by simp [Act.eval, Act.put]) (by simp [Act.eval, Act.put, hA]) (hap _) ?_)
 go_wp2
 go_ret
 exact ⟨rfl, rfl⟩
theorem del_ok (xs : List (List FV)) (i : Nat) (hin : i < xs.length) :
  ECalls Tryz.prog 167 [.v (.c (.row 0 xs.length)), .lit (.int .i64 i), .lit (.int .i64 ((i : Int) + 1))] [.row 124 3 xs] fun y H' =>
   H' = [none, some (.row 124 3 (xs.take i ++ xs.drop (i + 1)))] ∧ y = .v (.c (.row 1 (xs.length - 1))) := by
 obtain ⟨ti, z, E⟩ := elem
 exact del_ecalls E del1 xs i hin
end InsH
end Go.Proofs.YtejjhgdnmknejaaGreatDoor
