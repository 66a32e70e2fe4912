import Derived.Test.YtflcfdeanneoeaaGreatDoorAll9
set_option maxHeartbeats 64000000
namespace Go.Proofs.YtflcfdeanneoeaaGreatDoor
open Go Go.EW
set_option linter.unusedSimpArgs false
set_option linter.unusedVariables false
@[simp] def yl0 : UL | _ => [xQ 0 1 (.box 135 (.t 0)), xQ 1 2 (.mov (.k (.bool false)))]
@[simp] def yl1 : UL | _ => [xG 24 27 23 true (.bin .leq (.t 26) (xK 64)), xQ 25 28 (.pick (.t 23) (.t 27) (.k (.bool false))), xM 26 2 28]
@[simp] def yl2 : UL | _ => xG 18 21 18 true (.bin .lss (.t 20) (xK 8)) :: xQ 19 22 (.pick (.t 18) (.t 21) (.k (.bool false))) :: xM 20 23 22 :: xG 21 24 23 true (.fad 34 (.t 1)) :: xG 22 25 23 true (.ldc (.t 24)) :: xG 23 26 23 true (.len (.t 25)) :: hid yl1
@[simp] def yl3 : UL | _ => xG 12 15 13 true (.ldc (.t 14)) :: xG 13 16 13 true (.bin .geq (.t 15) (xK 0)) :: xQ 14 17 (.pick (.t 13) (.t 16) (.k (.bool false))) :: xM 15 18 17 :: xG 16 19 18 true (.fad 33 (.t 1)) :: xG 17 20 18 true (.ldc (.t 19)) :: hid yl2
@[simp] def yl4 : UL | _ => xG 6 9 7 true (.fad 32 (.t 8)) :: xG 7 10 7 true (.ldc (.t 9)) :: xG 8 11 7 true (.bin .lss (.t 10) (xK 64)) :: xQ 9 12 (.pick (.t 7) (.t 11) (.k (.bool false))) :: xM 10 13 12 :: xG 11 14 13 true (.fad 33 (.t 1)) :: hid yl3
@[simp] def yl5 : UL | _ => xQ 0 3 (.fad 0 (.t 1)) :: xQ 1 4 (.fad 32 (.t 3)) :: xQ 2 5 (.ldc (.t 4)) :: xQ 3 6 (.bin .geq (.t 5) (xK 0)) :: xM 4 7 6 :: xG 5 8 7 true (.fad 0 (.t 1)) :: hid yl4
@[simp] def yb6 : UB | _ => .seq (reg0 (hid yl0) 2) (.seq (reg0 (hid yl5) 27) .ret)
def c_InRight : EB × List QOp × Nat := ((hid yb6), [(.mov (.t 2))], 29)
theorem k_InRight : cfun Tryz.prog 133 = some c_InRight := by kernel_rfl
@[simp] def yl7 : UL | _ => [xQ 0 1 (.box 135 (.t 0)), xQ 1 2 (.mov (.k (.bool false)))]
@[simp] def yl8 : UL | _ => [xQ 0 3 (.lda 35 (.t 1)), xO 1 4 (.call 133 [(.t 3)]), xQ 2 5 (.un .not (.t 4)), xM 3 2 5]
@[simp] def yb9 : UB | _ => .seq (reg0 (hid yl7) 2) (.seq (reg0 (hid yl8) 4) .ret)
def c_TxC1 : EB × List QOp × Nat := ((hid yb9), [(.mov (.t 2))], 6)
theorem k_TxC1 : cfun Tryz.prog 132 = some c_TxC1 := by kernel_rfl
@[simp] def yla : UL | _ => [xQ 0 4 (.mov (xK 0))]
@[simp] def ylb : UL | _ => [xM 0 6 0, xQ 1 7 (.len (.t 6)), xQ 2 8 (.mov (xK 0))]
@[simp] def ylc : UL | _ => [xQ 0 9 (.bin .lss (.t 8) (.t 7))]
@[simp] def yld : UL | _ => [xM 0 10 8, xM 1 5 10]
@[simp] def yle : UL | _ => [xM 0 11 1, xM 1 12 0, xM 2 13 5, xQ 3 14 (.isl 35 (.t 12) (.t 13)), xQ 4 15 (.lda 35 (.t 14)), xO 5 16 (.clo (.t 11) [(.t 15)])]
@[simp] def ylf : UL | _ => [xM 0 17 5, xM 1 4 17]
@[simp] def ybg : UB | _ => .seq (reg0 (hid yle) 6) (.cond (.t 16) (.seq (reg0 (hid ylf) 2) .ret) .skip)
@[simp] def ylh : UL | _ => [xQ 0 18 (.bin .add (.t 8) (xK 1)), xM 1 8 18]
@[simp] def ybi : UB | _ => .seq (.block 1 (.seq (reg0 (hid yld) 2) (hid ybg))) (reg0 (hid ylh) 2)
@[simp] def ybj : UB | _ => .seq (reg0 (hid ylc) 1) (.seq (.cond (.t 9) .skip (.exit 0)) (hid ybi))
@[simp] def ylk : UL | _ => [xQ 0 4 (.mov (.k (.int .i64 (-1))))]
@[simp] def ybl : UB | _ => .seq (.seq (reg0 (hid ylb) 3) (.block 0 (.loop (hid ybj)))) (.seq (reg0 (hid ylk) 1) .ret)
@[simp] def ybm : UB | _ => .seq (reg0 (hid yla) 1) (hid ybl)
def c_IdxIn : EB × List QOp × Nat := ((hid ybm), [(.mov (.t 4))], 19)
theorem k_IdxIn : cfun Tryz.prog 168 = some c_IdxIn := by kernel_rfl
@[simp] def yln : UL | _ => [xQ 0 4 (.mov (.k (.bool false)))]
@[simp] def ylo : UL | _ => [xM 0 5 0, xM 1 6 1, xO 2 7 (.call 168 [(.t 5), (.t 6)]), xQ 3 8 (.bin .geq (.t 7) (xK 0)), xM 4 4 8]
@[simp] def ybp : UB | _ => .seq (reg0 (hid yln) 1) (.seq (reg0 (hid ylo) 5) .ret)
def c_ConIn : EB × List QOp × Nat := ((hid ybp), [(.mov (.t 4))], 9)
theorem k_ConIn : cfun Tryz.prog 135 = some c_ConIn := by kernel_rfl
@[simp] def ylq : UL | _ => [xQ 0 1 (.box 187 (.t 0)), xQ 1 2 (.mov (.k (.bool false)))]
@[simp] def ylr : UL | _ => [xQ 0 5 (.fad 0 (.t 1)), xQ 1 6 (.ldc (.t 5)), xQ 2 7 (.len (.t 6)), xQ 3 8 (.mov (xK 0))]
@[simp] def yls : UL | _ => [xQ 0 9 (.bin .lss (.t 8) (.t 7))]
@[simp] def ylt : UL | _ => [xM 0 10 8, xQ 1 11 (.isl 1 (.t 6) (.t 8)), xQ 2 12 (.ldc (.t 11)), xM 3 3 10, xM 4 4 12]
@[simp] def ylu : UL | _ => [xG 18 31 19 false (.pick (.t 22) (.t 30) (.k (.bool false))), xQ 19 32 (.pick (.t 19) (.k (.bool true)) (.t 31))]
@[simp] def ylv : UL | _ => xG 12 25 22 true (.mov (.t 3)) :: xG 13 26 22 true (.bin .sub (.t 25) (xK 1)) :: xG 14 27 22 true (.isl 1 (.t 24) (.t 26)) :: xG 15 28 22 true (.ldc (.t 27)) :: xG 16 29 22 true (.mov (.t 4)) :: xG 17 30 22 true (.bin .geq (.t 28) (.t 29)) :: hid ylu
@[simp] def ylw : UL | _ => xM 6 19 18 :: xG 7 20 19 false (.mov (.t 3)) :: xG 8 21 19 false (.bin .gtr (.t 20) (xK 0)) :: xG 9 22 19 false (.mov (.t 21)) :: xG 10 23 22 true (.fad 0 (.t 1)) :: xG 11 24 22 true (.ldc (.t 23)) :: hid ylv
@[simp] def ylx : UL | _ => xM 0 13 4 :: xQ 1 14 (.bin .lss (.t 13) (xK 0)) :: xM 2 15 14 :: xG 3 16 15 false (.mov (.t 4)) :: xG 4 17 15 false (.bin .geq (.t 16) (xK 16)) :: xQ 5 18 (.pick (.t 15) (.k (.bool true)) (.t 17)) :: hid ylw
@[simp] def yly : UL | _ => [xQ 0 2 (.mov (.k (.bool false)))]
@[simp] def ybz : UB | _ => .seq (reg0 (hid ylx) 20) (.cond (.t 32) (.seq (reg0 (hid yly) 1) .ret) .skip)
@[simp] def yl10 : UL | _ => [xQ 0 33 (.bin .add (.t 8) (xK 1)), xM 1 8 33]
@[simp] def yb11 : UB | _ => .seq (.block 1 (.seq (reg0 (hid ylt) 5) (hid ybz))) (reg0 (hid yl10) 2)
@[simp] def yb12 : UB | _ => .seq (reg0 (hid yls) 1) (.seq (.cond (.t 9) .skip (.exit 0)) (hid yb11))
@[simp] def yl13 : UL | _ => [xM 24 2 57]
@[simp] def yl14 : UL | _ => xQ 18 52 (.pick (.t 48) (.t 51) (.k (.bool false))) :: xM 19 53 52 :: xG 20 54 53 true (.fad 34 (.t 1)) :: xG 21 55 53 true (.ldc (.t 54)) :: xG 22 56 53 true (.bin .leq (.t 55) (xK 65536)) :: xQ 23 57 (.pick (.t 53) (.t 56) (.k (.bool false))) :: hid yl13
@[simp] def yl15 : UL | _ => xG 12 46 43 true (.bin .leq (.t 45) (xK 1099511627776)) :: xQ 13 47 (.pick (.t 43) (.t 46) (.k (.bool false))) :: xM 14 48 47 :: xG 15 49 48 true (.fad 34 (.t 1)) :: xG 16 50 48 true (.ldc (.t 49)) :: xG 17 51 48 true (.bin .geq (.t 50) (xK 0)) :: hid yl14
@[simp] def yl16 : UL | _ => xG 6 40 38 true (.ldc (.t 39)) :: xG 7 41 38 true (.bin .geq (.t 40) (xK 0)) :: xQ 8 42 (.pick (.t 38) (.t 41) (.k (.bool false))) :: xM 9 43 42 :: xG 10 44 43 true (.fad 33 (.t 1)) :: xG 11 45 43 true (.ldc (.t 44)) :: hid yl15
@[simp] def yl17 : UL | _ => xQ 0 34 (.fad 0 (.t 1)) :: xQ 1 35 (.ldc (.t 34)) :: xQ 2 36 (.len (.t 35)) :: xQ 3 37 (.bin .geq (.t 36) (xK 1)) :: xM 4 38 37 :: xG 5 39 38 true (.fad 33 (.t 1)) :: hid yl16
@[simp] def yb18 : UB | _ => .seq (.seq (reg0 (hid ylr) 4) (.block 0 (.loop (hid yb12)))) (.seq (reg0 (hid yl17) 25) .ret)
@[simp] def yb19 : UB | _ => .seq (reg0 (hid ylq) 2) (hid yb18)
def c_Bmay : EB × List QOp × Nat := ((hid yb19), [(.mov (.t 2))], 58)
theorem k_Bmay : cfun Tryz.prog 191 = some c_Bmay := by kernel_rfl
@[simp] def yl1a : UL | _ => [xQ 0 1 (.box 187 (.t 0)), xQ 1 2 (.mov (.k (.bool false)))]
@[simp] def yl1b : UL | _ => [xQ 0 3 (.lda 35 (.t 1)), xO 1 4 (.call 191 [(.t 3)]), xQ 2 5 (.un .not (.t 4)), xM 3 2 5]
@[simp] def yb1c : UB | _ => .seq (reg0 (hid yl1a) 2) (.seq (reg0 (hid yl1b) 4) .ret)
def c_CndC1 : EB × List QOp × Nat := ((hid yb1c), [(.mov (.t 2))], 6)
theorem k_CndC1 : cfun Tryz.prog 190 = some c_CndC1 := by kernel_rfl
@[simp] def yl1d : UL | _ => [xQ 0 4 (.mov (xK 0))]
@[simp] def yl1e : UL | _ => [xM 0 6 0, xQ 1 7 (.len (.t 6)), xQ 2 8 (.mov (xK 0))]
@[simp] def yl1f : UL | _ => [xQ 0 9 (.bin .lss (.t 8) (.t 7))]
@[simp] def yl1g : UL | _ => [xM 0 10 8, xM 1 5 10]
@[simp] def yl1h : UL | _ => [xM 0 11 1, xM 1 12 0, xM 2 13 5, xQ 3 14 (.isl 35 (.t 12) (.t 13)), xQ 4 15 (.lda 35 (.t 14)), xO 5 16 (.clo (.t 11) [(.t 15)])]
@[simp] def yl1i : UL | _ => [xM 0 17 5, xM 1 4 17]
@[simp] def yb1j : UB | _ => .seq (reg0 (hid yl1h) 6) (.cond (.t 16) (.seq (reg0 (hid yl1i) 2) .ret) .skip)
@[simp] def yl1k : UL | _ => [xQ 0 18 (.bin .add (.t 8) (xK 1)), xM 1 8 18]
@[simp] def yb1l : UB | _ => .seq (.block 1 (.seq (reg0 (hid yl1g) 2) (hid yb1j))) (reg0 (hid yl1k) 2)
@[simp] def yb1m : UB | _ => .seq (reg0 (hid yl1f) 1) (.seq (.cond (.t 9) .skip (.exit 0)) (hid yb1l))
@[simp] def yl1n : UL | _ => [xQ 0 4 (.mov (.k (.int .i64 (-1))))]
@[simp] def yb1o : UB | _ => .seq (.seq (reg0 (hid yl1e) 3) (.block 0 (.loop (hid yb1m)))) (.seq (reg0 (hid yl1n) 1) .ret)
@[simp] def yb1p : UB | _ => .seq (reg0 (hid yl1d) 1) (hid yb1o)
def c_IdxBr : EB × List QOp × Nat := ((hid yb1p), [(.mov (.t 4))], 19)
theorem k_IdxBr : cfun Tryz.prog 139 = some c_IdxBr := by kernel_rfl
@[simp] def yl1q : UL | _ => [xQ 0 4 (.mov (.k (.bool false)))]
@[simp] def yl1r : UL | _ => [xM 0 5 0, xM 1 6 1, xO 2 7 (.call 139 [(.t 5), (.t 6)]), xQ 3 8 (.bin .geq (.t 7) (xK 0)), xM 4 4 8]
@[simp] def yb1s : UB | _ => .seq (reg0 (hid yl1q) 1) (.seq (reg0 (hid yl1r) 5) .ret)
def c_ConBr : EB × List QOp × Nat := ((hid yb1s), [(.mov (.t 4))], 9)
theorem k_ConBr : cfun Tryz.prog 82 = some c_ConBr := by kernel_rfl
@[simp] def yl1t : UL | _ => [xQ 0 1 (.box 116 (.t 0)), xQ 1 2 (.mov (.k .nilIface))]
@[simp] def yl1u : UL | _ => [xQ 0 3 (.mov (.k (.func (.func 190) #[] #[])))]
@[simp] def yl1v : UL | _ => [xG 12 16 14 false (.ldc (.t 15)), xG 13 17 14 false (.mov (.t 3)), ⟨14, (some 18), (some (14, false)), (.call 82 [(.t 16), (.t 17)]), []⟩, xQ 15 19 (.pick (.t 14) (.k (.bool true)) (.t 18))]
@[simp] def yl1w : UL | _ => xG 6 10 8 false (.ldc (.t 9)) :: xG 7 11 8 false (.len (.t 10)) :: xG 8 12 8 false (.bin .gtr (.t 11) (xK 8)) :: xQ 9 13 (.pick (.t 8) (.k (.bool true)) (.t 12)) :: xM 10 14 13 :: xG 11 15 14 false (.fad 0 (.t 1)) :: hid yl1v
@[simp] def yl1x : UL | _ => xQ 0 4 (.fad 0 (.t 1)) :: xQ 1 5 (.ldc (.t 4)) :: xQ 2 6 (.len (.t 5)) :: xQ 3 7 (.bin .lss (.t 6) (xK 1)) :: xM 4 8 7 :: xG 5 9 8 false (.fad 0 (.t 1)) :: hid yl1w
@[simp] def yl1y : UL | _ => [xQ 0 20 (.mki 120 (xK 1)), xM 1 2 20]
@[simp] def yb1z : UB | _ => .seq (reg0 (hid yl1x) 16) (.cond (.t 19) (.seq (reg0 (hid yl1y) 2) .ret) .skip)
@[simp] def yl20 : UL | _ => [xQ 0 2 (.mov (.k .nilIface))]
@[simp] def yb21 : UB | _ => .seq (reg0 (hid yl1u) 1) (.seq (hid yb1z) (.seq (reg0 (hid yl20) 1) .ret))
@[simp] def yb22 : UB | _ => .seq (reg0 (hid yl1t) 2) (hid yb21)
def c_CCheck : EB × List QOp × Nat := ((hid yb22), [(.mov (.t 2))], 21)
theorem k_CCheck : cfun Tryz.prog 169 = some c_CCheck := by kernel_rfl
@[simp] def yl23 : UL | _ => [xQ 0 1 (.box 118 (.t 0)), xQ 1 2 (.mov (.k .nilIface))]
@[simp] def yl24 : UL | _ => [xQ 0 4 (.fad 0 (.t 1)), xQ 1 5 (.ldc (.t 4)), xQ 2 6 (.bin .lss (.t 5) (xK 10)), xM 3 3 6]
@[simp] def yl25 : UL | _ => [xQ 0 7 (.mki 120 (xK 27)), xM 1 2 7]
@[simp] def yl26 : UL | _ => [xQ 0 9 (.fad 0 (.t 1)), xQ 1 10 (.ldc (.t 9)), xQ 2 11 (.bin .gtr (.t 10) (xK 1125899906842624)), xM 3 8 11]
@[simp] def yl27 : UL | _ => [xQ 0 12 (.mki 120 (xK 5)), xM 1 2 12]
@[simp] def yb28 : UB | _ => .seq (reg0 (hid yl26) 4) (.cond (.t 8) (.seq (reg0 (hid yl27) 2) .ret) .skip)
@[simp] def yb29 : UB | _ => .seq (reg0 (hid yl24) 4) (.cond (.t 3) (.seq (reg0 (hid yl25) 2) .ret) (hid yb28))
@[simp] def yl2a : UL | _ => [xQ 0 13 (.fad 1 (.t 1)), xQ 1 14 (.lda 1 (.t 13)), xO 2 15 (.call 169 [(.t 14)]), xM 3 2 15]
@[simp] def yb2b : UB | _ => .seq (.block 0 (hid yb29)) (.seq (reg0 (hid yl2a) 4) .ret)
@[simp] def yb2c : UB | _ => .seq (reg0 (hid yl23) 2) (hid yb2b)
def c_OutChk : EB × List QOp × Nat := ((hid yb2c), [(.mov (.t 2))], 16)
theorem k_OutChk : cfun Tryz.prog 136 = some c_OutChk := by kernel_rfl
@[simp] def yl2d : UL | _ => [xQ 0 2 (.mov (.k (.bool false)))]
@[simp] def yl2e : UL | _ => [xM 6 2 8]
@[simp] def yl2f : UL | _ => xM 0 3 0 :: xQ 1 4 (.bin .geq (.t 3) (xK 1)) :: xM 2 5 4 :: xG 3 6 5 true (.mov (.t 0)) :: xG 4 7 5 true (.bin .leq (.t 6) (xK 64)) :: xQ 5 8 (.pick (.t 5) (.t 7) (.k (.bool false))) :: hid yl2e
@[simp] def yb2g : UB | _ => .seq (reg0 (hid yl2d) 1) (.seq (reg0 (hid yl2f) 7) .ret)
def c_TxSome : EB × List QOp × Nat := ((hid yb2g), [(.mov (.t 2))], 9)
theorem k_TxSome : cfun Tryz.prog 134 = some c_TxSome := by kernel_rfl
structure Bra where
  keys : List Int
  lock : List UInt8
  af : Int
  ol : Int
structure Inp where
  tx : List UInt8
  n : Int
  br : Int
  sec : List UInt8
structure Outp where
  am : Int
  cs : List Bra
structure Txn where
  lk : Int
  ins : List Inp
  outs : List Outp
def braF (b : Bra) : List FV := .sl 1 (intv b.keys) :: (hf b.lock ++ [iF b.af, iF b.ol])
def inpF (x : Inp) : List FV := hf x.tx ++ [iF x.n, iF x.br, .sl 1 (bsv x.sec)]
def brav (l : List Bra) : List (List FV) := l.map braF
def outF (o : Outp) : List FV := [iF o.am, .sl 35 (brav o.cs)]
def inpv (l : List Inp) : List (List FV) := l.map inpF
def outv (l : List Outp) : List (List FV) := l.map outF
def braC (b : Bra) : List EC := .fz (.sl 1 (intv b.keys)) :: (hc b.lock ++ [iC b.af, iC b.ol])
def inpC (x : Inp) : List EC := hc x.tx ++ [iC x.n, iC x.br, .fz (.sl 1 (bsv x.sec))]
def outC (o : Outp) : List EC := [iC o.am, .fz (.sl 35 (brav o.cs))]
def txC (t : Txn) : List EC := [iC t.lk, .fz (.sl 35 (inpv t.ins)), .fz (.sl 2 (outv t.outs))]
def TXv (t : Txn) : EV := .v (.agg (txC t))
def CNv (l : List Bra) : EV := .v (.agg [.fz (.sl 35 (brav l))])
def Bra.ok (b : Bra) : Prop := (∀ k ∈ b.keys, i64 k) ∧ b.lock.length = 32 ∧ i64 b.af ∧ i64 b.ol ∧ b.keys.length ≤ 100000000
def Inp.ok (x : Inp) : Prop := x.tx.length = 32 ∧ i64 x.n ∧ i64 x.br ∧ x.sec.length ≤ 100000000
def Outp.ok (o : Outp) : Prop := i64 o.am ∧ (∀ b ∈ o.cs, b.ok) ∧ o.cs.length ≤ 100000000
def Txn.ok (t : Txn) : Prop := i64 t.lk ∧ (∀ x ∈ t.ins, x.ok) ∧ (∀ o ∈ t.outs, o.ok) ∧ t.ins.length ≤ 100000000 ∧ t.outs.length ≤ 100000000
theorem braF_fz (b : Bra) : (braF b).map EC.fz = braC b := by simp [braF, braC, iF, iC]
theorem inpF_fz (x : Inp) : (inpF x).map EC.fz = inpC x := by simp [inpF, inpC, iF, iC]
@[simp] theorem brav_len (l : List Bra) : (brav l).length = l.length := by simp [brav]
@[simp] theorem inpv_len (l : List Inp) : (inpv l).length = l.length := by simp [inpv]
@[simp] theorem outv_len (l : List Outp) : (outv l).length = l.length := by simp [outv]
theorem brav_get {l : List Bra} {i : Nat} {p : Bra} (h : l[i]? = some p) : (brav l)[i]? = some (braF p) := by simp [brav, h]
theorem inpv_get {l : List Inp} {i : Nat} {p : Inp} (h : l[i]? = some p) : (inpv l)[i]? = some (inpF p) := by simp [inpv, h]
theorem outv_get {l : List Outp} {i : Nat} {p : Outp} (h : l[i]? = some p) : (outv l)[i]? = some (outF p) := by simp [outv, h]
@[simp] theorem conAll_braC (H : Nat → Option EO) (ids : List Nat) (p : Bra) : conAll H ids (braC p) = some (braC p) := by rw [← braF_fz]; exact conAll_mp H ids _
@[simp] theorem strAll_braC (ids : List Nat) (p : Bra) : strAll ids (braC p) = some (braC p) := by rw [← braF_fz]; exact strAll_mp ids _
@[simp] theorem frzAll_braC (p : Bra) : frzAll (braC p) = some (braF p) := by rw [← braF_fz]; exact frzAll_mp _
@[simp] theorem refs_braC (p : Bra) : (braC p).flatMap refsC = [] := by rw [← braF_fz]; exact refs_mp _
@[simp] theorem fz_braC (ids : List Nat) (p : Bra) : (braC p).flatMap (fzC ids) = [] := by rw [← braF_fz]; exact fz_mp ids _
@[simp] theorem ren_braC (g : Nat → Nat) (p : Bra) : (braC p).map (renC g) = braC p := by rw [← braF_fz]; exact ren_mp g _
@[simp] theorem conAll_inpC (H : Nat → Option EO) (ids : List Nat) (p : Inp) : conAll H ids (inpC p) = some (inpC p) := by rw [← inpF_fz]; exact conAll_mp H ids _
@[simp] theorem strAll_inpC (ids : List Nat) (p : Inp) : strAll ids (inpC p) = some (inpC p) := by rw [← inpF_fz]; exact strAll_mp ids _
@[simp] theorem frzAll_inpC (p : Inp) : frzAll (inpC p) = some (inpF p) := by rw [← inpF_fz]; exact frzAll_mp _
@[simp] theorem refs_inpC (p : Inp) : (inpC p).flatMap refsC = [] := by rw [← inpF_fz]; exact refs_mp _
@[simp] theorem fz_inpC (ids : List Nat) (p : Inp) : (inpC p).flatMap (fzC ids) = [] := by rw [← inpF_fz]; exact fz_mp ids _
@[simp] theorem ren_inpC (g : Nat → Nat) (p : Inp) : (inpC p).map (renC g) = inpC p := by rw [← inpF_fz]; exact ren_mp g _
section
variable {b : Bra} (h : b.lock.length = 32)
include h
theorem bc_len : (braC b).length = 35 := by simp [braC, hc_len, h]
theorem bf_len : (braF b).length = 35 := by simp [braF, h]
theorem bc_take : (braC b).take 35 = braC b := List.take_of_length_le (by rw [bc_len h]; omega)
theorem bc_lock : ((braC b).drop 1).take 32 = hc b.lock := by
  have e : (hc b.lock).length = 32 := by rw [hc_len, h]
  unfold braC
  rw [List.drop_succ_cons, List.drop_zero, ← e, List.take_left]
theorem bc_33 : (braC b)[33]? = some (iC b.af) := by
  have e : (hc b.lock).length = 32 := by rw [hc_len, h]
  unfold braC
  rw [List.getElem?_cons_succ, List.getElem?_append_right (by omega), e]; rfl
theorem bc_34 : (braC b)[34]? = some (iC b.ol) := by
  have e : (hc b.lock).length = 32 := by rw [hc_len, h]
  unfold braC
  rw [List.getElem?_cons_succ, List.getElem?_append_right (by omega), e]; rfl
end
theorem bc_0 (b : Bra) : (braC b)[0]? = some (.fz (.sl 1 (intv b.keys))) := rfl
section
variable {x : Inp} (h : x.tx.length = 32)
include h
theorem ic_len : (inpC x).length = 35 := by simp [inpC, hc_len, h]
theorem if_len : (inpF x).length = 35 := by simp [inpF, h]
theorem ic_take : (inpC x).take 35 = inpC x := List.take_of_length_le (by rw [ic_len h]; omega)
theorem ic_hash : (inpC x).take 32 = hc x.tx := by
  have e : (hc x.tx).length = 32 := by rw [hc_len, h]
  unfold inpC
  rw [← e, List.take_left]
theorem ic_pt : (inpC x).take 33 = hc x.tx ++ [iC x.n] := by
  have e : (hc x.tx).length = 32 := by rw [hc_len, h]
  unfold inpC
  rw [List.take_append, List.take_of_length_le (by omega), e]; rfl
theorem ic_at (i : Nat) : (inpC x)[32 + i]? = [iC x.n, iC x.br, .fz (.sl 1 (bsv x.sec))][i]? := by
  have e : (hc x.tx).length = 32 := by rw [hc_len, h]
  unfold inpC
  rw [List.getElem?_append_right (by omega), e, Nat.add_sub_cancel_left]
theorem ic_32 : (inpC x)[32]? = some (iC x.n) := ic_at h 0
theorem ic_33 : (inpC x)[33]? = some (iC x.br) := ic_at h 1
theorem ic_34 : (inpC x)[34]? = some (.fz (.sl 1 (bsv x.sec))) := ic_at h 2
end
def inM (x : Inp) : Bool := decide (0 ≤ x.n ∧ x.n < 64 ∧ 0 ≤ x.br ∧ x.br < 8 ∧ x.sec.length ≤ 64)
def brM (b : Bra) : Bool := keysS (-1) b.keys && decide (1 ≤ b.keys.length ∧ 0 ≤ b.af ∧ b.af ≤ 1099511627776 ∧ 0 ≤ b.ol ∧ b.ol ≤ 65536)
def cnE (l : List Bra) : Nat := if (1 ≤ l.length ∧ l.length ≤ 8) ∧ l.all brM = true then 0 else 1
def ouE (o : Outp) : Nat := if o.am < 10 then 27 else if 1125899906842624 < o.am then 5 else cnE o.cs
theorem InRight_ok (x : Inp) (h : x.ok) : ECalls Tryz.prog 133 [.v (.agg (inpC x))] [] fun y H' => H' = [] ∧ y = .lit (.bool (inM x)) := by
  obtain ⟨h1, _, _, h4⟩ := h
  have l0 := ic_len h1
  have e32 := idx_of (ic_32 h1) (by omega)
  have e33 := idx_of (ic_33 h1) (by omega)
  have e34 := idx_of (ic_34 h1) (by omega)
  refine ecalls k_InRight ?_
  simp [c_InRight, I, l0, e32, e33, e34, iC]
  by_cases c1 : 0 ≤ x.n
  rotate_left
  · rw [show inM x = false from decide_eq_false (by omega)]
    simp [c1]
    exact fin0
  by_cases c2 : x.n < 64
  rotate_left
  · rw [show inM x = false from decide_eq_false (by omega)]
    simp [c1, c2, l0, e32, e33, e34, iC]
    exact fin0
  by_cases c3 : 0 ≤ x.br
  rotate_left
  · rw [show inM x = false from decide_eq_false (by omega)]
    simp [c1, c2, c3, l0, e32, e33, e34, iC]
    exact fin0
  by_cases c4 : x.br < 8
  rotate_left
  · rw [show inM x = false from decide_eq_false (by omega)]
    simp [c1, c2, c3, c4, l0, e32, e33, e34, iC]
    exact fin0
  have hb : (bsv x.sec).length = x.sec.length := by simp
  have hm : inM x = decide ((x.sec.length : Int) ≤ 64) := by
    unfold inM
    by_cases q : x.sec.length ≤ 64
    · rw [decide_eq_true ⟨c1, c2, c3, c4, q⟩, decide_eq_true (by omega)]
    · rw [decide_eq_false (by omega), decide_eq_false (by omega)]
  rw [hm]
  simp [c1, c2, c3, c4, l0, e32, e33, e34, iC]
  exact fin [] (by decide) rfl rfl rfl ⟨rfl, by simp⟩
theorem TxC1_ok (x : Inp) (h : x.ok) : ECalls Tryz.prog 132 [.v (.agg (inpC x))] [] fun y H' => H' = [] ∧ y = .lit (.bool (!inM x)) := by
  have l0 := ic_len h.1
  have t0 := ic_take h.1
  refine ecalls k_TxC1 ?_
  simp [c_TxC1, I, l0, t0]
  refine call0 (InRight_ok x h) (by simp) ?_
  rintro y H' ⟨rfl, rfl⟩
  refine ⟨.inl (by simp), le_ok rfl, ?_⟩
  simp
  exact fin0
theorem TxC1_body : bodyOK Tryz.prog 132 = true := by kernel_rfl
theorem IdxIn_ok (l : List Inp) (hl : ∀ h ∈ l, h.ok) (hn : l.length ≤ 100000000) : ECalls Tryz.prog 168 [.v (.c (.fz (.sl 35 (inpv l)))), .v (.c (.clo 132 []))] [] fun y H' => H' = [] ∧ ((l.all inM = true ∧ y = I .i64 (-1)) ∨ (l.all inM = false ∧ ∃ i : Nat, y = I .i64 i)) := by
  obtain ⟨B, hB⟩ : ∃ B, l.all inM = B := ⟨_, rfl⟩
  rw [hB]
  refine ecalls k_IdxIn ?_
  simp [c_IdxIn, I]
  refine eloop (α := Nat) (fun i => i ≤ l.length ∧ ∀ (k : Nat) (x : Inp), k < i → l[k]? = some x → inM x = true) (fun i => l.length - i)
    (fun i => [.v (.c (.fz (.sl 35 (inpv l)))), .v (.c (.clo 132 [])), .any, .any, .any, .any, .any, I .i64 l.length, I .i64 i, .any, .any, .any, .any, .any, .any, .any, .any, .any, .any]) (fun _ => []) 0 []
    ⟨Nat.zero_le _, fun k x h => by omega⟩ (by simp [I]) (by simp) (by simp) (by simp) (by simp) ?_
  rintro i ⟨hi, hlo⟩
  simp [I]
  refine alt (fun hlt => ?_) (fun hlt => ?_)
  · have hln : i < l.length := by omega
    obtain ⟨p, hc⟩ : ∃ p, l[i]? = some p := ⟨l[i], by simp [hln]⟩
    have hge : (inpv l)[i]'(by simp [hln]) = inpF p := gE (inpv_get hc)
    have w4 := wS (i := i) (by omega)
    have hpo := hl p (List.mem_of_getElem? hc)
    have l0 := ic_len hpo.1
    have l1 := if_len hpo.1
    have t0 := ic_take hpo.1
    simp [hln, hge, inpF_fz, l0, l1, t0]
    refine ⟨TxC1_body, ?_⟩
    refine call0 (TxC1_ok p hpo) (by simp) ?_
    rintro y H' ⟨rfl, rfl⟩
    refine ⟨.inl (by simp), le_ok rfl, ?_⟩
    cases hP : inM p
    · simp
      exact fin [] (by decide) rfl rfl rfl ⟨rfl, .inr ⟨by rw [← hB, List.all_eq_false]; exact ⟨p, List.mem_of_getElem? hc, by simp [hP]⟩, i, rfl⟩⟩
    · simp [w4, -Int.natCast_add]
      refine round (i + 1) [] ⟨by omega, ?_⟩ (by omega) (by simp [I]) (by simp) (by simp) (by simp) (by simp)
      intro k q hk hq
      rcases Nat.lt_or_ge k i with h1 | h1
      · exact hlo k q h1 hq
      · obtain rfl : k = i := by omega
        rw [hc] at hq
        obtain rfl := Option.some.inj hq
        exact hP
  · simp
    refine fin [] (by decide) rfl rfl rfl ⟨rfl, .inl ⟨?_, rfl⟩⟩
    rw [← hB, List.all_eq_true]
    intro x hx
    obtain ⟨k, hk⟩ := List.getElem?_of_mem hx
    exact hlo k x (by have := lt_len hk; omega) hk
theorem ConIn_ok (l : List Inp) (hl : ∀ h ∈ l, h.ok) (hn : l.length ≤ 100000000) : ECalls Tryz.prog 135 [.v (.c (.fz (.sl 35 (inpv l)))), .v (.c (.clo 132 []))] [] fun y H' => H' = [] ∧ y = .lit (.bool (!l.all inM)) := by
  refine ecalls k_ConIn ?_
  simp [c_ConIn]
  refine call0 (IdxIn_ok l hl hn) (by simp) ?_
  rintro y H' ⟨rfl, h⟩
  rcases h with ⟨h, rfl⟩ | ⟨h, i, rfl⟩
  · refine ⟨.inl (by simp [I]), le_ok rfl, ?_⟩
    rw [h]
    simp [I]
    exact fin0
  · refine ⟨.inl (by simp [I]), le_ok rfl, ?_⟩
    have n0 : (0 : Int) ≤ (i : Int) := by omega
    rw [h]
    simp [I, n0]
    exact fin0
theorem Bmay_ok (b : Bra) (h : b.ok) : ECalls Tryz.prog 191 [.v (.agg (braC b))] [] fun y H' => H' = [] ∧ y = .lit (.bool (brM b)) := by
  obtain ⟨hk, h1, ha, ho, h4⟩ := h
  have l0 := bc_len h1
  have e0 := idx_of (bc_0 b) (by omega)
  have e33 := idx_of (bc_33 h1) (by omega)
  have e34 := idx_of (bc_34 h1) (by omega)
  refine ecalls k_Bmay ?_
  simp [c_Bmay, I, l0, e0, iC]
  refine eloop (α := Nat × Int) (fun a => a.1 ≤ b.keys.length ∧ keysS (-1) b.keys = keysS a.2 (b.keys.drop a.1) ∧ (a.1 = 0 → a.2 = -1) ∧ (0 < a.1 → b.keys[a.1 - 1]? = some a.2)) (fun a => b.keys.length - a.1)
    (fun a => [xA, Ptr 0, xA, xA, xA, xA, IL b.keys, I .i64 b.keys.length, I .i64 a.1, xA, xA, xA, xA, xA, xA, xA, xA, xA, xA, xA, xA, xA, xA, xA, xA, xA, xA, xA, xA, xA, xA, xA, xA, xA, xA, xA, xA, xA, xA, xA, xA, xA, xA, xA, xA, xA, xA, xA, xA, xA, xA, xA, xA, xA, xA, xA, xA, .any]) (fun _ => [some (.box 187 (braC b))]) (0, -1) [0]
    ⟨by simp, by simp, by simp, by simp⟩ (by simp [Ptr, I, IL]) (by simp) (by simp) (by simp) (by simp) ?_
  rintro ⟨i, last⟩ ⟨hi1, hi2, hi3, hi4⟩
  dsimp only at hi1 hi2 hi3 hi4
  simp [Ptr, I, IL]
  refine alt (fun hlt => ?_) (fun hlt => ?_)
  · have hln : i < b.keys.length := by omega
    obtain ⟨k, hc⟩ : ∃ k, b.keys[i]? = some k := ⟨b.keys[i], by simp [hln]⟩
    have ga : ∀ h2, (intv b.keys)[i]'h2 = [.lit (.int .i64 k)] := fun h2 => by rw [intv_at hln, hc]; rfl
    rw [drop_cons hc] at hi2
    have w1 := wS (i := i) (by omega)
    have hbad : ¬ (last < k ∧ k < 16) → brM b = false := fun q => by simp only [brM, hi2, keysS, decide_eq_false q, Bool.false_and]
    have hgood : last < k → k < 16 → keysS (-1) b.keys = keysS k (b.keys.drop (i + 1)) := fun q1 q2 => by rw [hi2, keysS, decide_eq_true ⟨q1, q2⟩, Bool.true_and]
    have hm : -1 ≤ last ∨ brM b = false ∨ True := by right; right; trivial
    simp [hln, ga]
    by_cases c1 : k < 0
    · have hv : brM b = false := by
        by_cases q : last < k
        · rcases Nat.eq_zero_or_pos i with e | e
          · have := hi3 e; omega
          · exact by
              have hneg : last < 0 := by omega
              have key : ∀ (l : List Int) (o : Int) (j : Nat) (z : Int), keysS o l = true → l[j]? = some z → o < z := by
                intro l
                induction l with
                | nil => intro o j z _ h; simp at h
                | cons a r ih =>
                  intro o j z hh hz
                  simp only [keysS, Bool.and_eq_true, decide_eq_true_eq] at hh
                  cases j with
                  | zero => simp at hz; omega
                  | succ j => have := ih a j z hh.2 (by simpa using hz); omega
              by_cases hks : keysS (-1) b.keys = true
              · have := key b.keys (-1) (i - 1) last hks (hi4 e); omega
              · simp only [brM, Bool.not_eq_true] at hks ⊢
                rw [hks]; rfl
        · exact hbad (by omega)
      have c1' : ¬ 0 ≤ k := by omega
      rw [hv]
      simp [c1, c1']
      exact fin0
    have c1' : 0 ≤ k := by omega
    by_cases c2 : 16 ≤ k
    · have c2' : ¬ k < 16 := by omega
      rw [hbad (by omega)]
      simp [c1, c1', c2, c2']
      exact fin0
    have c2' : k < 16 := by omega
    rcases Nat.eq_zero_or_pos i with e | e
    · subst e
      have hl := hi3 rfl
      simp [c1, c1', c2, c2']
      have w1' : IntKind.i64.wrap 1 = 1 := by decide +kernel
      try simp [w1']
      exact round (1, k) [0] ⟨by dsimp only; omega, hgood (by omega) (by omega), by simp, by simpa using hc⟩ (by dsimp only; omega) (by simp [Ptr, I, IL]) (by simp) (by simp) (by simp) (by simp)
    · have e' : (0 : Int) < (i : Int) := by omega
      have hq := hi4 e
      have hti : i - 1 < b.keys.length := by omega
      have gb : ∀ h2, (intv b.keys)[i - 1]'h2 = [.lit (.int .i64 last)] := fun h2 => by rw [intv_at hti, hq]; rfl
      have w3 : IntKind.i64.wrap ((i : Int) - 1) = ((i - 1 : Nat) : Int) := by rw [wrap_i64 (by omega) (by omega)]; omega
      have n1 : ¬ (((i - 1 : Nat) : Int) < 0) := by omega
      obtain ⟨p, hp⟩ : ∃ p, i - 1 = p := ⟨_, rfl⟩
      rw [hp] at hti gb w3 n1
      simp [c1, c1', c2, c2', e, e', w3, gb, hti, n1, hln, l0, e0]
      by_cases c3 : k ≤ last
      · have c3' : ¬ last < k := by omega
        rw [hbad (by omega)]
        simp [c3, c3']
        exact fin0
      · have c3' : last < k := by omega
        simp [c3, c3', w1, -Int.natCast_add]
        exact round (i + 1, k) [0] ⟨by dsimp only; omega, hgood (by omega) (by omega), by simp, by simpa using hc⟩ (by dsimp only; omega) (by simp [Ptr, I, IL]) (by simp) (by simp) (by simp) (by simp)
  · have hd : b.keys.drop i = [] := by rw [List.drop_eq_nil_iff]; omega
    have hks : keysS (-1) b.keys = true := by rw [hi2, hd]; rfl
    have hm : brM b = decide (1 ≤ b.keys.length ∧ 0 ≤ b.af ∧ b.af ≤ 1099511627776 ∧ 0 ≤ b.ol ∧ b.ol ≤ 65536) := by simp only [brM, hks, Bool.true_and]
    rw [hm]
    by_cases c1 : 1 ≤ b.keys.length
    rotate_left
    · have c1' : ¬ (1 : Int) ≤ (b.keys.length : Int) := by omega
      rw [decide_eq_false (by omega)]
      simp [Ptr, I, l0, e0, e33, e34, iC, c1, c1']
      exact fin0
    have c1' : (1 : Int) ≤ (b.keys.length : Int) := by omega
    by_cases c2 : 0 ≤ b.af
    rotate_left
    · have d2 : b.af < 0 := by omega
      rw [decide_eq_false (by omega)]
      simp [Ptr, I, l0, e0, e33, e34, iC, c1, c1', c2, d2]
      exact fin0
    have d2 : ¬ b.af < 0 := by omega
    by_cases c3 : b.af ≤ 1099511627776
    rotate_left
    · have d3 : 1099511627776 < b.af := by omega
      rw [decide_eq_false (by omega)]
      simp [Ptr, I, l0, e0, e33, e34, iC, c1, c1', c2, d2, c3, d3]
      exact fin0
    have d3 : ¬ 1099511627776 < b.af := by omega
    by_cases c4 : 0 ≤ b.ol
    rotate_left
    · have d4 : b.ol < 0 := by omega
      rw [decide_eq_false (by omega)]
      simp [Ptr, I, l0, e0, e33, e34, iC, c1, c1', c2, d2, c3, d3, c4, d4]
      exact fin0
    have d4 : ¬ b.ol < 0 := by omega
    by_cases c5 : b.ol ≤ 65536
    rotate_left
    · have d5 : 65536 < b.ol := by omega
      rw [decide_eq_false (by omega)]
      simp [Ptr, I, l0, e0, e33, e34, iC, c1, c1', c2, d2, c3, d3, c4, d4, c5, d5]
      exact fin0
    have d5 : ¬ 65536 < b.ol := by omega
    rw [decide_eq_true (by omega)]
    simp [Ptr, I, l0, e0, e33, e34, iC, c1, c1', c2, d2, c3, d3, c4, d4, c5, d5]
    exact fin0
theorem CndC1_ok (x : Bra) (h : x.ok) : ECalls Tryz.prog 190 [.v (.agg (braC x))] [] fun y H' => H' = [] ∧ y = .lit (.bool (!brM x)) := by
  have l0 := bc_len h.2.1
  have t0 := bc_take h.2.1
  refine ecalls k_CndC1 ?_
  simp [c_CndC1, I, l0, t0]
  refine call0 (Bmay_ok x h) (by simp) ?_
  rintro y H' ⟨rfl, rfl⟩
  refine ⟨.inl (by simp), le_ok rfl, ?_⟩
  simp
  exact fin0
theorem CndC1_body : bodyOK Tryz.prog 190 = true := by kernel_rfl
theorem IdxBr_ok (l : List Bra) (hl : ∀ h ∈ l, h.ok) (hn : l.length ≤ 100000000) : ECalls Tryz.prog 139 [.v (.c (.fz (.sl 35 (brav l)))), .v (.c (.clo 190 []))] [] fun y H' => H' = [] ∧ ((l.all brM = true ∧ y = I .i64 (-1)) ∨ (l.all brM = false ∧ ∃ i : Nat, y = I .i64 i)) := by
  obtain ⟨B, hB⟩ : ∃ B, l.all brM = B := ⟨_, rfl⟩
  rw [hB]
  refine ecalls k_IdxBr ?_
  simp [c_IdxBr, I]
  refine eloop (α := Nat) (fun i => i ≤ l.length ∧ ∀ (k : Nat) (x : Bra), k < i → l[k]? = some x → brM x = true) (fun i => l.length - i)
    (fun i => [.v (.c (.fz (.sl 35 (brav l)))), .v (.c (.clo 190 [])), .any, .any, .any, .any, .any, I .i64 l.length, I .i64 i, .any, .any, .any, .any, .any, .any, .any, .any, .any, .any]) (fun _ => []) 0 []
    ⟨Nat.zero_le _, fun k x h => by omega⟩ (by simp [I]) (by simp) (by simp) (by simp) (by simp) ?_
  rintro i ⟨hi, hlo⟩
  simp [I]
  refine alt (fun hlt => ?_) (fun hlt => ?_)
  · have hln : i < l.length := by omega
    obtain ⟨p, hc⟩ : ∃ p, l[i]? = some p := ⟨l[i], by simp [hln]⟩
    have hge : (brav l)[i]'(by simp [hln]) = braF p := gE (brav_get hc)
    have w4 := wS (i := i) (by omega)
    have hpo := hl p (List.mem_of_getElem? hc)
    have l0 := bc_len hpo.2.1
    have l1 := bf_len hpo.2.1
    have t0 := bc_take hpo.2.1
    simp [hln, hge, braF_fz, l0, l1, t0]
    refine ⟨CndC1_body, ?_⟩
    refine call0 (CndC1_ok p hpo) (by simp) ?_
    rintro y H' ⟨rfl, rfl⟩
    refine ⟨.inl (by simp), le_ok rfl, ?_⟩
    cases hP : brM p
    · simp
      exact fin [] (by decide) rfl rfl rfl ⟨rfl, .inr ⟨by rw [← hB, List.all_eq_false]; exact ⟨p, List.mem_of_getElem? hc, by simp [hP]⟩, i, rfl⟩⟩
    · simp [w4, -Int.natCast_add]
      refine round (i + 1) [] ⟨by omega, ?_⟩ (by omega) (by simp [I]) (by simp) (by simp) (by simp) (by simp)
      intro k q hk hq
      rcases Nat.lt_or_ge k i with h1 | h1
      · exact hlo k q h1 hq
      · obtain rfl : k = i := by omega
        rw [hc] at hq
        obtain rfl := Option.some.inj hq
        exact hP
  · simp
    refine fin [] (by decide) rfl rfl rfl ⟨rfl, .inl ⟨?_, rfl⟩⟩
    rw [← hB, List.all_eq_true]
    intro x hx
    obtain ⟨k, hk⟩ := List.getElem?_of_mem hx
    exact hlo k x (by have := lt_len hk; omega) hk
theorem ConBr_ok (l : List Bra) (hl : ∀ h ∈ l, h.ok) (hn : l.length ≤ 100000000) : ECalls Tryz.prog 82 [.v (.c (.fz (.sl 35 (brav l)))), .v (.c (.clo 190 []))] [] fun y H' => H' = [] ∧ y = .lit (.bool (!l.all brM)) := by
  refine ecalls k_ConBr ?_
  simp [c_ConBr]
  refine call0 (IdxBr_ok l hl hn) (by simp) ?_
  rintro y H' ⟨rfl, h⟩
  rcases h with ⟨h, rfl⟩ | ⟨h, i, rfl⟩
  · refine ⟨.inl (by simp [I]), le_ok rfl, ?_⟩
    rw [h]
    simp [I]
    exact fin0
  · refine ⟨.inl (by simp [I]), le_ok rfl, ?_⟩
    have n0 : (0 : Int) ≤ (i : Int) := by omega
    rw [h]
    simp [I, n0]
    exact fin0
theorem CCheck_ok (l : List Bra) (hl : ∀ h ∈ l, h.ok) (hn : l.length ≤ 100000000) : ECalls Tryz.prog 169 [CNv l] [] fun y H' => H' = [] ∧ y = .lit (errV (cnE l)) := by
  refine ecalls k_CCheck ?_
  simp [c_CCheck, CNv, I]
  by_cases c1 : l.length < 1
  · have c1' : (l.length : Int) < 1 := by omega
    have d1 : ¬ 1 ≤ l.length := by omega
    have d1' : ¬ (1 : Int) ≤ (l.length : Int) := by omega
    have hv : cnE l = 1 := if_neg (by omega)
    rw [hv]
    simp [c1, c1', d1, d1']
    exact fin0
  have c1' : ¬ (l.length : Int) < 1 := by omega
  have d1 : 1 ≤ l.length := by omega
  have d1' : (1 : Int) ≤ (l.length : Int) := by omega
  by_cases c2 : 8 < l.length
  · have c2' : (8 : Int) < (l.length : Int) := by omega
    have d2 : ¬ l.length ≤ 8 := by omega
    have d2' : ¬ (l.length : Int) ≤ 8 := by omega
    have hv : cnE l = 1 := if_neg (by omega)
    rw [hv]
    simp [c1, c1', d1, d1', c2, c2', d2, d2']
    exact fin0
  have c2' : ¬ (8 : Int) < (l.length : Int) := by omega
  have d2 : l.length ≤ 8 := by omega
  have d2' : (l.length : Int) ≤ 8 := by omega
  simp [c1, c1', d1, d1', c2, c2', d2, d2']
  refine call0 (ConBr_ok l hl hn) (by simp) ?_
  rintro y H' ⟨rfl, rfl⟩
  refine ⟨.inl (by simp), le_ok rfl, ?_⟩
  cases hP : l.all brM
  · have hv : cnE l = 1 := if_neg (by rw [hP]; simp)
    rw [hv]
    simp
    exact fin0
  · have hv : cnE l = 0 := if_pos ⟨by omega, hP⟩
    rw [hv]
    simp
    exact fin0
theorem OutChk_ok (o : Outp) (h : o.ok) : ECalls Tryz.prog 136 [.v (.agg (outC o))] [] fun y H' => H' = [] ∧ y = .lit (errV (ouE o)) := by
  obtain ⟨h1, h2, h3⟩ := h
  refine ecalls k_OutChk ?_
  simp [c_OutChk, outC, I, iC]
  by_cases c1 : o.am < 10
  · rw [show ouE o = 27 from if_pos c1]
    simp [c1]
    exact fin0
  by_cases c2 : 1125899906842624 < o.am
  · rw [show ouE o = 5 by unfold ouE; rw [if_neg c1, if_pos c2]]
    simp [c1, c2]
    exact fin0
  rw [show ouE o = cnE o.cs by unfold ouE; rw [if_neg c1, if_neg c2]]
  simp [c1, c2]
  refine call0 (CCheck_ok o.cs h2 h3) (by simp [CNv]) ?_
  rintro y H' ⟨rfl, rfl⟩
  refine ⟨.inl (by simp), le_ok rfl, ?_⟩
  simp [-errV_0]
  exact fin0
theorem TxSome_ok (n : Int) : ECalls Tryz.prog 134 [I .i64 n] [] fun y H' => H' = [] ∧ y = .lit (.bool (decide (1 ≤ n ∧ n ≤ 64))) := by
  refine ecalls k_TxSome ?_
  simp [c_TxSome, I]
  by_cases c1 : 1 ≤ n
  · by_cases c2 : n ≤ 64
    · simp [c1, c2]
      exact fin0
    · simp [c1, c2]
      exact fin0
  · simp [c1]
    exact fin0
def restN : Nat → Nat → List Int → List Int
  | 0, _, l => l
  | k + 1, i, l => restN k (i + 1) (sinkS i l)
def insN (l : List Int) : List Int := restN (l.length - 1) 1 l
def RisI (l : List Int) : Prop := ∀ i a b, l[i]? = some a → l[i + 1]? = some b → a < b
theorem sink_ris {l : List Int} (h : RisI l) (i : Nat) (hi : i < l.length) : sinkS i l = l := by
  cases i with
  | zero => rfl
  | succ j =>
    unfold sinkS
    obtain ⟨a, ha⟩ : ∃ a, l[j]? = some a := ⟨l[j], by simp [show j < l.length by omega]⟩
    obtain ⟨b, hb⟩ : ∃ b, l[j + 1]? = some b := ⟨l[j + 1], by simp [hi]⟩
    have := h j a b ha hb
    rw [ha, hb, if_neg (by simp; omega)]
theorem rest_ris {l : List Int} (h : RisI l) : ∀ (k i : Nat), i + k ≤ l.length → restN k i l = l
  | 0, _, _ => rfl
  | k + 1, i, hk => by
    unfold restN
    rw [sink_ris h i (by omega)]
    exact rest_ris h k (i + 1) (by omega)
theorem ins_ris {l : List Int} (h : RisI l) : insN l = l := by
  unfold insN
  rcases Nat.eq_zero_or_pos l.length with e | e
  · rw [e]; rfl
  · exact rest_ris h _ _ (by omega)
theorem restN_len : ∀ (k i : Nat) (l : List Int), (restN k i l).length = l.length
  | 0, _, _ => rfl
  | k + 1, i, l => by unfold restN; rw [restN_len k, sinkS_len]
theorem insN_len (l : List Int) : (insN l).length = l.length := restN_len _ _ _
theorem InsN_ok (l : List Int) (n : Nat) (h3 : l.length = n) (hn1 : 1 ≤ n) (hn2 : n ≤ 1000) : ECalls Tryz.prog 175 [.v (.c (.row 0 n)), I .i64 0, I .i64 n] [.row 3 1 (intv l)] fun y H' => H' = [some (.row 3 1 (intv (insN l)))] ∧ y = .tup [] := by
  obtain ⟨F, hF⟩ : ∃ F, insN l = F := ⟨_, rfl⟩
  rw [hF]
  have w0 : IntKind.i64.wrap 1 = 1 := by decide +kernel
  refine ecalls k_InsI ?_
  simp [c_InsI, I, w0]
  refine eloop (α := Nat × List Int) (fun a => 1 ≤ a.1 ∧ a.1 ≤ n ∧ a.2.length = n ∧ restN (n - a.1) a.1 a.2 = F) (fun a => n - a.1)
    (fun a => [.v (.c (.row 0 n)), I .i64 0, I .i64 n, xA, xA, xA, I .i64 a.1, xA, xA, xA, xA, xA, xA, xA, xA, xA, xA, xA, xA, xA, xA, xA, xA, xA, xA, xA, xA, xA, xA, xA, xA, xA, xA, xA, xA, xA, xA, xA, xA, xA, xA, xA, xA, xA, xA, xA, xA, xA, .any]) (fun a => [some (.row 3 1 (intv a.2))]) (1, l) [0]
    ⟨by simp, by simpa using hn1, h3, by rw [← hF, ← h3]; rfl⟩ (by simp [I]) (by simp) (by simp) (by simp) (by simp) ?_
  rintro ⟨i, m⟩ ⟨hi1, hi3, hm, hr⟩
  dsimp only at hi1 hi3 hm hr
  by_cases hlt : i < n
  · have hli : (i : Int) < n := by omega
    have w1 := wS (i := i) (by omega)
    have hnext : restN (n - (i + 1)) (i + 1) (sinkS i m) = F := by
      rw [← hr, show n - i = (n - (i + 1)) + 1 by omega]
      rfl
    obtain ⟨G, hG⟩ : ∃ G, sinkS i m = G := ⟨_, rfl⟩
    have hGl : G.length = n := by rw [← hG, sinkS_len]; exact hm
    rw [hG] at hnext
    simp [I, hli, hlt]
    refine eloop (α := Nat × List Int) (fun a => a.1 ≤ i ∧ a.2.length = n ∧ sinkS a.1 a.2 = G) (fun a => a.1)
      (fun a => [.v (.c (.row 0 n)), I .i64 0, I .i64 n, xA, xA, xA, I .i64 i, I .i64 a.1, xA, xA, xA, xA, xA, xA, xA, xA, xA, xA, xA, xA, xA, xA, xA, xA, xA, xA, xA, xA, xA, xA, xA, xA, xA, xA, xA, xA, xA, xA, xA, xA, xA, xA, xA, xA, xA, xA, xA, xA, .any]) (fun a => [some (.row 3 1 (intv a.2))]) (i, m) [0]
      ⟨Nat.le_refl _, hm, hG⟩ (by simp [I]) (by simp) (by simp) (by simp) (by simp) ?_
    rintro ⟨j, k⟩ ⟨hj, hk, hs⟩
    dsimp only at hj hk hs
    rcases Nat.eq_zero_or_pos j with hj0 | hj0
    · subst hj0
      have hkG : k = G := hs
      subst hkG
      simp [I, w1, -Int.natCast_add]
      exact round (i + 1, k) [0] ⟨by dsimp only; omega, by dsimp only; omega, hk, hnext⟩ (by dsimp only; omega) (by simp [I]) (by simp) (by simp) (by simp) (by simp)
    · obtain ⟨p, rfl⟩ : ∃ p, j = p + 1 := ⟨j - 1, by omega⟩
      have hjp : (0 : Int) < ((p + 1 : Nat) : Int) := by omega
      have wj : IntKind.i64.wrap (((p + 1 : Nat) : Int) - 1) = (p : Int) := by rw [wrap_i64 (by omega) (by omega)]; omega
      obtain ⟨j, hje⟩ : ∃ j, p + 1 = j := ⟨_, rfl⟩
      have hp3 : p < n := by omega
      have hj3 : j < n := by omega
      obtain ⟨A, hA⟩ : ∃ A, (k[p]?).getD 0 = A := ⟨_, rfl⟩
      obtain ⟨B, hB⟩ : ∃ B, (k[j]?).getD 0 = B := ⟨_, rfl⟩
      have ga : ∀ h2, (intv k)[p]'h2 = [.lit (.int .i64 A)] := fun h2 => by rw [intv_at (by omega), hA]
      have gb : ∀ h2, (intv k)[j]'h2 = [.lit (.int .i64 B)] := fun h2 => by rw [intv_at (by omega), hB]
      have hs' : (if B < A then sinkS p (swS k p) else k) = G := by
        rw [← hs, ← hB, ← hA, ← hje]
        rfl
      rw [hje] at hjp wj
      have ip : (p : Int) < n := by omega
      have ij : (j : Int) < n := by omega
      have n0 : ¬ ((j : Int) < 0) := by omega
      have n1 : ¬ ((p : Int) < 0) := by omega
      rw [hje]
      have hjn : 0 < j := by omega
      simp [I, hjp, hjn, wj, ga, gb, hk, hp3, hj3, ip, ij, n0, n1]
      refine call0 (LessI_ok B A) (by simp [I]) ?_
      rintro y H' ⟨rfl, rfl⟩
      refine ⟨.inl (by simp), le_ok rfl, ?_⟩
      have hsw : (k.set j A).set p B = swS k p := by unfold swS; rw [hje, hA, hB]
      by_cases hBA : B < A
      · rw [if_pos hBA] at hs'
        rw [decide_eq_true hBA]
        have gp : ∀ h2, (intv (k.set j A))[p]'h2 = [.lit (.int .i64 (((k.set j A)[p]?).getD 0))] := fun h2 => intv_at (by simp; omega) h2
        simp [I, wj, ga, gb, gp, hk, hp3, hj3, ip, ij, n0, n1, intv_set, hsw]
        exact round (p, swS k p) [0] ⟨by dsimp only; omega, by rw [swS_len]; exact hk, hs'⟩ (by dsimp only; omega) (by simp [I]) (by simp) (by simp) (by simp) (by simp)
      · rw [if_neg hBA] at hs'
        subst hs'
        rw [decide_eq_false hBA]
        simp [I, w1, -Int.natCast_add]
        exact round (i + 1, k) [0] ⟨by dsimp only; omega, by dsimp only; omega, hk, hnext⟩ (by dsimp only; omega) (by simp [I]) (by simp) (by simp) (by simp) (by simp)
  · have h3' : i = n := by omega
    subst h3'
    have hmF : m = F := by rw [← hr, Nat.sub_self]; rfl
    subst hmF
    simp [I]
    exact fin [] (by decide) rfl rfl (by simp [objsOut, show List.range 1 = [0] from rfl]) ⟨rfl, rfl⟩
@[simp] def yl2h : UL | _ => [xQ 0 8 (.mov (xK 0)), xQ 1 9 (.mov (xK 0))]
@[simp] def yl2i : UL | _ => [xQ 6 16 (.isl 1 (.t 14) (.t 15)), xQ 7 17 (.ldc (.t 16)), xO 8 18 (.call 122 [(.t 13), (.t 17)])]
@[simp] def yl2j : UL | _ => xM 0 10 0 :: xM 1 11 2 :: xQ 2 12 (.isl 1 (.t 10) (.t 11)) :: xQ 3 13 (.ldc (.t 12)) :: xM 4 14 0 :: xM 5 15 1 :: hid yl2i
@[simp] def yl2k : UL | _ => [xM 0 19 3, xQ 1 20 (.nilc (.t 19)), xQ 2 21 (.ldc (.t 20)), xQ 3 22 (.bin .add (.t 21) (xK 1)), xQ 4 23 (.nilc (.t 19)), xN 5 (.sto 1 (.t 23) (.t 22))]
@[simp] def yl2l : UL | _ => [xM 0 24 2, xM 1 25 1, xM 2 8 24, xM 3 9 25]
@[simp] def yb2m : UB | _ => .cond (.t 18) (.seq (reg0 (hid yl2k) 6) (.seq (reg0 (hid yl2l) 4) .ret)) .skip
@[simp] def yl2n : UL | _ => [xM 0 26 1, xM 1 27 2, xM 2 8 26, xM 3 9 27]
@[simp] def yb2o : UB | _ => .seq (.seq (reg0 (hid yl2j) 9) (hid yb2m)) (.seq (reg0 (hid yl2n) 4) .ret)
@[simp] def yb2p : UB | _ => .seq (reg0 (hid yl2h) 2) (hid yb2o)
def c_Ord2I : EB × List QOp × Nat := ((hid yb2p), [(.mov (.t 8)), (.mov (.t 9))], 28)
theorem k_Ord2I : cfun Tryz.prog 201 = some c_Ord2I := by kernel_rfl
@[simp] def yl2q : UL | _ => [xQ 0 10 (.mov (xK 0))]
@[simp] def yl2r : UL | _ => [xQ 6 17 (.ext 0 (.t 11)), xQ 7 18 (.ext 1 (.t 11)), xM 8 1 17, xM 9 2 18]
@[simp] def yl2s : UL | _ => xM 0 12 0 :: xM 1 13 1 :: xM 2 14 2 :: xM 3 15 4 :: xO 4 16 (.call 201 [(.t 12), (.t 13), (.t 14), (.t 15)]) :: xM 5 11 16 :: hid yl2r
@[simp] def yl2t : UL | _ => [xQ 6 25 (.ext 0 (.t 19)), xQ 7 26 (.ext 1 (.t 19)), xM 8 2 25, xM 9 3 26]
@[simp] def yl2u : UL | _ => xM 0 20 0 :: xM 1 21 2 :: xM 2 22 3 :: xM 3 23 4 :: xO 4 24 (.call 201 [(.t 20), (.t 21), (.t 22), (.t 23)]) :: xM 5 19 24 :: hid yl2t
@[simp] def yl2v : UL | _ => [xQ 6 33 (.ext 0 (.t 27)), xQ 7 34 (.ext 1 (.t 27)), xM 8 1 33, xM 9 2 34]
@[simp] def yl2w : UL | _ => xM 0 28 0 :: xM 1 29 1 :: xM 2 30 2 :: xM 3 31 4 :: xO 4 32 (.call 201 [(.t 28), (.t 29), (.t 30), (.t 31)]) :: xM 5 27 32 :: hid yl2v
@[simp] def yl2x : UL | _ => [xM 0 35 2, xM 1 10 35]
@[simp] def yb2y : UB | _ => .seq (reg0 (hid yl2u) 10) (.seq (reg0 (hid yl2w) 10) (.seq (reg0 (hid yl2x) 2) .ret))
@[simp] def yb2z : UB | _ => .seq (reg0 (hid yl2q) 1) (.seq (reg0 (hid yl2s) 10) (hid yb2y))
def c_MedI : EB × List QOp × Nat := ((hid yb2z), [(.mov (.t 10))], 36)
theorem k_MedI : cfun Tryz.prog 198 = some c_MedI := by kernel_rfl
@[simp] def yl30 : UL | _ => [xQ 0 6 (.mov (xK 0)), xQ 1 7 (.mov (xK 0))]
@[simp] def yl31 : UL | _ => [xM 0 13 2, xM 1 14 1, xQ 2 15 (.bin .sub (.t 13) (.t 14)), xM 3 8 15]
@[simp] def yl32 : UL | _ => [xQ 0 9 (.alloc 3 [xZ])]
@[simp] def yl33 : UL | _ => [xM 0 16 1, xM 1 17 8, xQ 2 18 (.bin .quo (.t 17) (xK 4)), xQ 3 19 (.bin .mul (.t 18) (xK 1)), xQ 4 20 (.bin .add (.t 16) (.t 19)), xM 5 10 20]
@[simp] def yl34 : UL | _ => [xM 0 21 1, xM 1 22 8, xQ 2 23 (.bin .quo (.t 22) (xK 4)), xQ 3 24 (.bin .mul (.t 23) (xK 2)), xQ 4 25 (.bin .add (.t 21) (.t 24)), xM 5 11 25]
@[simp] def yl35 : UL | _ => [xM 0 26 1, xM 1 27 8, xQ 2 28 (.bin .quo (.t 27) (xK 4)), xQ 3 29 (.bin .mul (.t 28) (xK 3)), xQ 4 30 (.bin .add (.t 26) (.t 29)), xM 5 12 30]
@[simp] def yl36 : UL | _ => [xM 0 31 8, xQ 1 32 (.bin .geq (.t 31) (xK 8))]
@[simp] def yl37 : UL | _ => [xM 0 33 8, xQ 1 34 (.bin .geq (.t 33) (xK 50))]
@[simp] def yl38 : UL | _ => [xM 0 35 0, xM 1 36 10, xO 2 37 (.call 197 [(.t 35), (.t 36), (.t 9)]), xM 3 10 37]
@[simp] def yl39 : UL | _ => [xM 0 38 0, xM 1 39 11, xO 2 40 (.call 197 [(.t 38), (.t 39), (.t 9)]), xM 3 11 40]
@[simp] def yl3a : UL | _ => [xM 0 41 0, xM 1 42 12, xO 2 43 (.call 197 [(.t 41), (.t 42), (.t 9)]), xM 3 12 43]
@[simp] def yb3b : UB | _ => .seq (reg0 (hid yl38) 4) (.seq (reg0 (hid yl39) 4) (reg0 (hid yl3a) 4))
@[simp] def yl3c : UL | _ => [xM 0 44 0, xM 1 45 10, xM 2 46 11, xM 3 47 12, xO 4 48 (.call 198 [(.t 44), (.t 45), (.t 46), (.t 47), (.t 9)]), xM 5 11 48]
@[simp] def yb3d : UB | _ => .seq (.seq (reg0 (hid yl37) 2) (.cond (.t 34) (hid yb3b) .skip)) (reg0 (hid yl3c) 6)
@[simp] def yl3e : UL | _ => [xQ 0 49 (.ldc (.t 9))]
@[simp] def yl3f : UL | _ => [xQ 0 52 (.bin .eql (.t 49) (xK 0)), xM 1 51 52]
@[simp] def yl3g : UL | _ => [xM 0 53 11, xM 1 6 53, xQ 2 7 (.mov (xK 1))]
@[simp] def yl3h : UL | _ => [xQ 0 55 (.bin .eql (.t 49) (xK 12)), xM 1 54 55]
@[simp] def yl3i : UL | _ => [xM 0 56 11, xM 1 6 56, xQ 2 7 (.mov (xK 2))]
@[simp] def yl3j : UL | _ => [xM 0 50 11, xM 1 6 50, xQ 2 7 (.mov (xK 0))]
@[simp] def yb3k : UB | _ => .cond (.t 54) (.seq (reg0 (hid yl3i) 3) .ret) (.seq (reg0 (hid yl3j) 3) .ret)
@[simp] def yb3l : UB | _ => .cond (.t 51) (.seq (reg0 (hid yl3g) 3) .ret) (.seq (reg0 (hid yl3h) 2) (hid yb3k))
@[simp] def yb3m : UB | _ => .seq (reg0 (hid yl3e) 1) (.block 0 (.seq (reg0 (hid yl3f) 2) (hid yb3l)))
@[simp] def yb3n : UB | _ => .seq (.seq (reg0 (hid yl36) 2) (.cond (.t 32) (hid yb3d) .skip)) (hid yb3m)
@[simp] def yb3o : UB | _ => .seq (reg0 (hid yl34) 6) (.seq (reg0 (hid yl35) 6) (hid yb3n))
@[simp] def yb3p : UB | _ => .seq (reg0 (hid yl32) 1) (.seq (reg0 (hid yl33) 6) (hid yb3o))
@[simp] def yb3q : UB | _ => .seq (reg0 (hid yl30) 2) (.seq (reg0 (hid yl31) 4) (hid yb3p))
def c_ChpI : EB × List QOp × Nat := ((hid yb3q), [(.mov (.t 6)), (.mov (.t 7))], 57)
theorem k_ChpI : cfun Tryz.prog 178 = some c_ChpI := by kernel_rfl
@[simp] def yl3r : UL | _ => [xQ 0 6 (.mov (.k (.bool false)))]
@[simp] def yl3s : UL | _ => [xM 0 11 1, xQ 1 12 (.bin .add (.t 11) (xK 1)), xM 2 7 12]
@[simp] def yl3t : UL | _ => [xQ 0 8 (.mov (xK 0))]
@[simp] def yl3u : UL | _ => [xM 0 13 8, xQ 1 14 (.bin .lss (.t 13) (xK 5))]
@[simp] def yl3v : UL | _ => [xG 12 29 20 true (.ldc (.t 28)), ⟨13, (some 30), (some (20, true)), (.call 122 [(.t 24), (.t 29)]), []⟩, xG 14 31 20 true (.un .not (.t 30)), xQ 15 32 (.pick (.t 20) (.t 31) (.k (.bool false)))]
@[simp] def yl3w : UL | _ => xG 6 23 20 true (.isl 1 (.t 21) (.t 22)) :: xG 7 24 20 true (.ldc (.t 23)) :: xG 8 25 20 true (.mov (.t 0)) :: xG 9 26 20 true (.mov (.t 7)) :: xG 10 27 20 true (.bin .sub (.t 26) (xK 1)) :: xG 11 28 20 true (.isl 1 (.t 25) (.t 27)) :: hid yl3v
@[simp] def yl3x : UL | _ => xM 0 17 7 :: xM 1 18 2 :: xQ 2 19 (.bin .lss (.t 17) (.t 18)) :: xM 3 20 19 :: xG 4 21 20 true (.mov (.t 0)) :: xG 5 22 20 true (.mov (.t 7)) :: hid yl3w
@[simp] def yl3y : UL | _ => [xM 0 33 7, xQ 1 34 (.bin .add (.t 33) (xK 1)), xM 2 7 34]
@[simp] def yb3z : UB | _ => .seq (.seq (reg0 (hid yl3x) 16) (.cond (.t 32) .skip (.exit 2))) (.block 3 (reg0 (hid yl3y) 3))
@[simp] def yl40 : UL | _ => [xM 0 35 7, xM 1 36 2, xQ 2 37 (.bin .eql (.t 35) (.t 36))]
@[simp] def yl41 : UL | _ => [xQ 0 6 (.mov (.k (.bool true)))]
@[simp] def yb42 : UB | _ => .seq (reg0 (hid yl40) 3) (.cond (.t 37) (.seq (reg0 (hid yl41) 1) .ret) .skip)
@[simp] def yl43 : UL | _ => [xM 0 38 2, xM 1 39 1, xQ 2 40 (.bin .sub (.t 38) (.t 39)), xQ 3 41 (.bin .lss (.t 40) (xK 50))]
@[simp] def yl44 : UL | _ => [xQ 0 6 (.mov (.k (.bool false)))]
@[simp] def yb45 : UB | _ => .seq (reg0 (hid yl43) 4) (.cond (.t 41) (.seq (reg0 (hid yl44) 1) .ret) .skip)
@[simp] def yl46 : UL | _ => [xQ 12 54 (.isl 1 (.t 52) (.t 53)), xQ 13 55 (.ldc (.t 54)), xQ 14 56 (.isl 1 (.t 42) (.t 43)), ⟨15, none, none, (.sto 1 (.t 56) (.t 51)), [2, 3, 4]⟩, xQ 16 57 (.isl 1 (.t 44) (.t 46)), xN 17 (.sto 1 (.t 57) (.t 55))]
@[simp] def yl47 : UL | _ => xM 6 48 7 :: xQ 7 49 (.bin .sub (.t 48) (xK 1)) :: xQ 8 50 (.isl 1 (.t 47) (.t 49)) :: xQ 9 51 (.ldc (.t 50)) :: xM 10 52 0 :: xM 11 53 7 :: hid yl46
@[simp] def yl48 : UL | _ => xM 0 42 0 :: xM 1 43 7 :: xM 2 44 0 :: xM 3 45 7 :: xQ 4 46 (.bin .sub (.t 45) (xK 1)) :: xM 5 47 0 :: hid yl47
@[simp] def yl49 : UL | _ => [xM 0 58 7, xM 1 59 1, xQ 2 60 (.bin .sub (.t 58) (.t 59)), xQ 3 61 (.bin .geq (.t 60) (xK 2))]
@[simp] def yl4a : UL | _ => [xM 0 62 7, xQ 1 63 (.bin .sub (.t 62) (xK 1)), xM 2 9 63]
@[simp] def yl4b : UL | _ => [xM 0 64 9, xQ 1 65 (.bin .geq (.t 64) (xK 1))]
@[simp] def yl4c : UL | _ => [xQ 6 74 (.bin .sub (.t 73) (xK 1)), xQ 7 75 (.isl 1 (.t 72) (.t 74)), xQ 8 76 (.ldc (.t 75)), xO 9 77 (.call 122 [(.t 71), (.t 76)]), xQ 10 78 (.un .not (.t 77))]
@[simp] def yl4d : UL | _ => xM 0 68 0 :: xM 1 69 9 :: xQ 2 70 (.isl 1 (.t 68) (.t 69)) :: xQ 3 71 (.ldc (.t 70)) :: xM 4 72 0 :: xM 5 73 9 :: hid yl4c
@[simp] def yl4e : UL | _ => [xQ 12 91 (.isl 1 (.t 89) (.t 90)), xQ 13 92 (.ldc (.t 91)), xQ 14 93 (.isl 1 (.t 79) (.t 80)), ⟨15, none, none, (.sto 1 (.t 93) (.t 88)), [2, 3, 4]⟩, xQ 16 94 (.isl 1 (.t 81) (.t 83)), xN 17 (.sto 1 (.t 94) (.t 92))]
@[simp] def yl4f : UL | _ => xM 6 85 9 :: xQ 7 86 (.bin .sub (.t 85) (xK 1)) :: xQ 8 87 (.isl 1 (.t 84) (.t 86)) :: xQ 9 88 (.ldc (.t 87)) :: xM 10 89 0 :: xM 11 90 9 :: hid yl4e
@[simp] def yl4g : UL | _ => xM 0 79 0 :: xM 1 80 9 :: xM 2 81 0 :: xM 3 82 9 :: xQ 4 83 (.bin .sub (.t 82) (xK 1)) :: xM 5 84 0 :: hid yl4f
@[simp] def yb4h : UB | _ => .seq (.seq (reg0 (hid yl4d) 11) (.cond (.t 78) (.exit 4) .skip)) (reg1 (hid yl4g) 18)
@[simp] def yl4i : UL | _ => [xM 0 66 9, xQ 1 67 (.bin .sub (.t 66) (xK 1)), xM 2 9 67]
@[simp] def yb4j : UB | _ => .seq (.seq (reg0 (hid yl4b) 2) (.cond (.t 65) .skip (.exit 4))) (.seq (.block 5 (hid yb4h)) (reg0 (hid yl4i) 3))
@[simp] def yb4k : UB | _ => .cond (.t 61) (.seq (reg0 (hid yl4a) 3) (.block 4 (.loop (hid yb4j)))) .skip
@[simp] def yl4l : UL | _ => [xM 0 95 2, xM 1 96 7, xQ 2 97 (.bin .sub (.t 95) (.t 96)), xQ 3 98 (.bin .geq (.t 97) (xK 2))]
@[simp] def yl4m : UL | _ => [xM 0 99 7, xQ 1 100 (.bin .add (.t 99) (xK 1)), xM 2 10 100]
@[simp] def yl4n : UL | _ => [xM 0 101 10, xM 1 102 2, xQ 2 103 (.bin .lss (.t 101) (.t 102))]
@[simp] def yl4o : UL | _ => [xQ 6 112 (.bin .sub (.t 111) (xK 1)), xQ 7 113 (.isl 1 (.t 110) (.t 112)), xQ 8 114 (.ldc (.t 113)), xO 9 115 (.call 122 [(.t 109), (.t 114)]), xQ 10 116 (.un .not (.t 115))]
@[simp] def yl4p : UL | _ => xM 0 106 0 :: xM 1 107 10 :: xQ 2 108 (.isl 1 (.t 106) (.t 107)) :: xQ 3 109 (.ldc (.t 108)) :: xM 4 110 0 :: xM 5 111 10 :: hid yl4o
@[simp] def yl4q : UL | _ => [xQ 12 129 (.isl 1 (.t 127) (.t 128)), xQ 13 130 (.ldc (.t 129)), xQ 14 131 (.isl 1 (.t 117) (.t 118)), ⟨15, none, none, (.sto 1 (.t 131) (.t 126)), [2, 3, 4]⟩, xQ 16 132 (.isl 1 (.t 119) (.t 121)), xN 17 (.sto 1 (.t 132) (.t 130))]
@[simp] def yl4r : UL | _ => xM 6 123 10 :: xQ 7 124 (.bin .sub (.t 123) (xK 1)) :: xQ 8 125 (.isl 1 (.t 122) (.t 124)) :: xQ 9 126 (.ldc (.t 125)) :: xM 10 127 0 :: xM 11 128 10 :: hid yl4q
@[simp] def yl4s : UL | _ => xM 0 117 0 :: xM 1 118 10 :: xM 2 119 0 :: xM 3 120 10 :: xQ 4 121 (.bin .sub (.t 120) (xK 1)) :: xM 5 122 0 :: hid yl4r
@[simp] def yb4t : UB | _ => .seq (.seq (reg0 (hid yl4p) 11) (.cond (.t 116) (.exit 6) .skip)) (reg1 (hid yl4s) 18)
@[simp] def yl4u : UL | _ => [xM 0 104 10, xQ 1 105 (.bin .add (.t 104) (xK 1)), xM 2 10 105]
@[simp] def yb4v : UB | _ => .seq (.seq (reg0 (hid yl4n) 3) (.cond (.t 103) .skip (.exit 6))) (.seq (.block 7 (hid yb4t)) (reg0 (hid yl4u) 3))
@[simp] def yb4w : UB | _ => .cond (.t 98) (.seq (reg0 (hid yl4m) 3) (.block 6 (.loop (hid yb4v)))) .skip
@[simp] def yb4x : UB | _ => .seq (.seq (reg0 (hid yl49) 4) (hid yb4k)) (.seq (reg0 (hid yl4l) 4) (hid yb4w))
@[simp] def yb4y : UB | _ => .seq (hid yb42) (.seq (hid yb45) (.seq (reg1 (hid yl48) 18) (hid yb4x)))
@[simp] def yl4z : UL | _ => [xM 0 15 8, xQ 1 16 (.bin .add (.t 15) (xK 1)), xM 2 8 16]
@[simp] def yb50 : UB | _ => .seq (.block 1 (.seq (.block 2 (.loop (hid yb3z))) (hid yb4y))) (reg0 (hid yl4z) 3)
@[simp] def yb51 : UB | _ => .seq (.seq (reg0 (hid yl3u) 2) (.cond (.t 14) .skip (.exit 0))) (hid yb50)
@[simp] def yl52 : UL | _ => [xQ 0 6 (.mov (.k (.bool false)))]
@[simp] def yb53 : UB | _ => .seq (.seq (reg0 (hid yl3t) 1) (.block 0 (.loop (hid yb51)))) (.seq (reg0 (hid yl52) 1) .ret)
@[simp] def yb54 : UB | _ => .seq (reg0 (hid yl3r) 1) (.seq (reg0 (hid yl3s) 3) (hid yb53))
def c_PisI : EB × List QOp × Nat := ((hid yb54), [(.mov (.t 6))], 133)
theorem k_PisI : cfun Tryz.prog 180 = some c_PisI := by kernel_rfl
theorem LenB64_1 : ECalls Tryz.prog 184 [.lit (.int .u64 1)] [] fun y H' => H' = [] ∧ y = I .i64 1 := by
  refine ecalls k_LenB64 ?_
  have w1 : IntKind.u8.wrap 1 = 1 := by decide +kernel
  have w2 : IntKind.i64.wrap 1 = 1 := by decide +kernel
  have hs : s_LenB64_0.data[1]? = some 1 := by decide +kernel
  simp [c_LenB64, I, w1, hs, w2]
  exact fin0
theorem LenB_1 : ECalls Tryz.prog 152 [.lit (.int .u64 1)] [] fun y H' => H' = [] ∧ y = I .i64 1 := by
  refine ecalls k_LenB ?_
  simp [c_LenB, I]
  refine call0 LenB64_1 (by simp) ?_
  rintro y H' ⟨rfl, rfl⟩
  refine ⟨.inl (by simp [I]), le_ok rfl, ?_⟩
  simp [I]
  exact fin0
theorem LenB64_2 : ECalls Tryz.prog 184 [.lit (.int .u64 2)] [] fun y H' => H' = [] ∧ y = I .i64 2 := by
  refine ecalls k_LenB64 ?_
  have w1 : IntKind.u8.wrap 2 = 2 := by decide +kernel
  have w2 : IntKind.i64.wrap 2 = 2 := by decide +kernel
  have hs : s_LenB64_0.data[2]? = some 2 := by decide +kernel
  simp [c_LenB64, I, w1, hs, w2]
  exact fin0
theorem LenB_2 : ECalls Tryz.prog 152 [.lit (.int .u64 2)] [] fun y H' => H' = [] ∧ y = I .i64 2 := by
  refine ecalls k_LenB ?_
  simp [c_LenB, I]
  refine call0 LenB64_2 (by simp) ?_
  rintro y H' ⟨rfl, rfl⟩
  refine ⟨.inl (by simp [I]), le_ok rfl, ?_⟩
  simp [I]
  exact fin0
theorem LenB64_3 : ECalls Tryz.prog 184 [.lit (.int .u64 3)] [] fun y H' => H' = [] ∧ y = I .i64 2 := by
  refine ecalls k_LenB64 ?_
  have w1 : IntKind.u8.wrap 3 = 3 := by decide +kernel
  have w2 : IntKind.i64.wrap 2 = 2 := by decide +kernel
  have hs : s_LenB64_0.data[3]? = some 2 := by decide +kernel
  simp [c_LenB64, I, w1, hs, w2]
  exact fin0
theorem LenB_3 : ECalls Tryz.prog 152 [.lit (.int .u64 3)] [] fun y H' => H' = [] ∧ y = I .i64 2 := by
  refine ecalls k_LenB ?_
  simp [c_LenB, I]
  refine call0 LenB64_3 (by simp) ?_
  rintro y H' ⟨rfl, rfl⟩
  refine ⟨.inl (by simp [I]), le_ok rfl, ?_⟩
  simp [I]
  exact fin0
theorem LenB64_4 : ECalls Tryz.prog 184 [.lit (.int .u64 4)] [] fun y H' => H' = [] ∧ y = I .i64 3 := by
  refine ecalls k_LenB64 ?_
  have w1 : IntKind.u8.wrap 4 = 4 := by decide +kernel
  have w2 : IntKind.i64.wrap 3 = 3 := by decide +kernel
  have hs : s_LenB64_0.data[4]? = some 3 := by decide +kernel
  simp [c_LenB64, I, w1, hs, w2]
  exact fin0
theorem LenB_4 : ECalls Tryz.prog 152 [.lit (.int .u64 4)] [] fun y H' => H' = [] ∧ y = I .i64 3 := by
  refine ecalls k_LenB ?_
  simp [c_LenB, I]
  refine call0 LenB64_4 (by simp) ?_
  rintro y H' ⟨rfl, rfl⟩
  refine ⟨.inl (by simp [I]), le_ok rfl, ?_⟩
  simp [I]
  exact fin0
theorem LenB64_5 : ECalls Tryz.prog 184 [.lit (.int .u64 5)] [] fun y H' => H' = [] ∧ y = I .i64 3 := by
  refine ecalls k_LenB64 ?_
  have w1 : IntKind.u8.wrap 5 = 5 := by decide +kernel
  have w2 : IntKind.i64.wrap 3 = 3 := by decide +kernel
  have hs : s_LenB64_0.data[5]? = some 3 := by decide +kernel
  simp [c_LenB64, I, w1, hs, w2]
  exact fin0
theorem LenB_5 : ECalls Tryz.prog 152 [.lit (.int .u64 5)] [] fun y H' => H' = [] ∧ y = I .i64 3 := by
  refine ecalls k_LenB ?_
  simp [c_LenB, I]
  refine call0 LenB64_5 (by simp) ?_
  rintro y H' ⟨rfl, rfl⟩
  refine ⟨.inl (by simp [I]), le_ok rfl, ?_⟩
  simp [I]
  exact fin0
theorem LenB64_6 : ECalls Tryz.prog 184 [.lit (.int .u64 6)] [] fun y H' => H' = [] ∧ y = I .i64 3 := by
  refine ecalls k_LenB64 ?_
  have w1 : IntKind.u8.wrap 6 = 6 := by decide +kernel
  have w2 : IntKind.i64.wrap 3 = 3 := by decide +kernel
  have hs : s_LenB64_0.data[6]? = some 3 := by decide +kernel
  simp [c_LenB64, I, w1, hs, w2]
  exact fin0
theorem LenB_6 : ECalls Tryz.prog 152 [.lit (.int .u64 6)] [] fun y H' => H' = [] ∧ y = I .i64 3 := by
  refine ecalls k_LenB ?_
  simp [c_LenB, I]
  refine call0 LenB64_6 (by simp) ?_
  rintro y H' ⟨rfl, rfl⟩
  refine ⟨.inl (by simp [I]), le_ok rfl, ?_⟩
  simp [I]
  exact fin0
theorem LenB64_7 : ECalls Tryz.prog 184 [.lit (.int .u64 7)] [] fun y H' => H' = [] ∧ y = I .i64 3 := by
  refine ecalls k_LenB64 ?_
  have w1 : IntKind.u8.wrap 7 = 7 := by decide +kernel
  have w2 : IntKind.i64.wrap 3 = 3 := by decide +kernel
  have hs : s_LenB64_0.data[7]? = some 3 := by decide +kernel
  simp [c_LenB64, I, w1, hs, w2]
  exact fin0
theorem LenB_7 : ECalls Tryz.prog 152 [.lit (.int .u64 7)] [] fun y H' => H' = [] ∧ y = I .i64 3 := by
  refine ecalls k_LenB ?_
  simp [c_LenB, I]
  refine call0 LenB64_7 (by simp) ?_
  rintro y H' ⟨rfl, rfl⟩
  refine ⟨.inl (by simp [I]), le_ok rfl, ?_⟩
  simp [I]
  exact fin0
theorem LenB64_8 : ECalls Tryz.prog 184 [.lit (.int .u64 8)] [] fun y H' => H' = [] ∧ y = I .i64 4 := by
  refine ecalls k_LenB64 ?_
  have w1 : IntKind.u8.wrap 8 = 8 := by decide +kernel
  have w2 : IntKind.i64.wrap 4 = 4 := by decide +kernel
  have hs : s_LenB64_0.data[8]? = some 4 := by decide +kernel
  simp [c_LenB64, I, w1, hs, w2]
  exact fin0
theorem LenB_8 : ECalls Tryz.prog 152 [.lit (.int .u64 8)] [] fun y H' => H' = [] ∧ y = I .i64 4 := by
  refine ecalls k_LenB ?_
  simp [c_LenB, I]
  refine call0 LenB64_8 (by simp) ?_
  rintro y H' ⟨rfl, rfl⟩
  refine ⟨.inl (by simp [I]), le_ok rfl, ?_⟩
  simp [I]
  exact fin0
theorem LenB64_9 : ECalls Tryz.prog 184 [.lit (.int .u64 9)] [] fun y H' => H' = [] ∧ y = I .i64 4 := by
  refine ecalls k_LenB64 ?_
  have w1 : IntKind.u8.wrap 9 = 9 := by decide +kernel
  have w2 : IntKind.i64.wrap 4 = 4 := by decide +kernel
  have hs : s_LenB64_0.data[9]? = some 4 := by decide +kernel
  simp [c_LenB64, I, w1, hs, w2]
  exact fin0
theorem LenB_9 : ECalls Tryz.prog 152 [.lit (.int .u64 9)] [] fun y H' => H' = [] ∧ y = I .i64 4 := by
  refine ecalls k_LenB ?_
  simp [c_LenB, I]
  refine call0 LenB64_9 (by simp) ?_
  rintro y H' ⟨rfl, rfl⟩
  refine ⟨.inl (by simp [I]), le_ok rfl, ?_⟩
  simp [I]
  exact fin0
theorem LenB64_10 : ECalls Tryz.prog 184 [.lit (.int .u64 10)] [] fun y H' => H' = [] ∧ y = I .i64 4 := by
  refine ecalls k_LenB64 ?_
  have w1 : IntKind.u8.wrap 10 = 10 := by decide +kernel
  have w2 : IntKind.i64.wrap 4 = 4 := by decide +kernel
  have hs : s_LenB64_0.data[10]? = some 4 := by decide +kernel
  simp [c_LenB64, I, w1, hs, w2]
  exact fin0
theorem LenB_10 : ECalls Tryz.prog 152 [.lit (.int .u64 10)] [] fun y H' => H' = [] ∧ y = I .i64 4 := by
  refine ecalls k_LenB ?_
  simp [c_LenB, I]
  refine call0 LenB64_10 (by simp) ?_
  rintro y H' ⟨rfl, rfl⟩
  refine ⟨.inl (by simp [I]), le_ok rfl, ?_⟩
  simp [I]
  exact fin0
theorem LenB64_11 : ECalls Tryz.prog 184 [.lit (.int .u64 11)] [] fun y H' => H' = [] ∧ y = I .i64 4 := by
  refine ecalls k_LenB64 ?_
  have w1 : IntKind.u8.wrap 11 = 11 := by decide +kernel
  have w2 : IntKind.i64.wrap 4 = 4 := by decide +kernel
  have hs : s_LenB64_0.data[11]? = some 4 := by decide +kernel
  simp [c_LenB64, I, w1, hs, w2]
  exact fin0
theorem LenB_11 : ECalls Tryz.prog 152 [.lit (.int .u64 11)] [] fun y H' => H' = [] ∧ y = I .i64 4 := by
  refine ecalls k_LenB ?_
  simp [c_LenB, I]
  refine call0 LenB64_11 (by simp) ?_
  rintro y H' ⟨rfl, rfl⟩
  refine ⟨.inl (by simp [I]), le_ok rfl, ?_⟩
  simp [I]
  exact fin0
theorem LenB64_12 : ECalls Tryz.prog 184 [.lit (.int .u64 12)] [] fun y H' => H' = [] ∧ y = I .i64 4 := by
  refine ecalls k_LenB64 ?_
  have w1 : IntKind.u8.wrap 12 = 12 := by decide +kernel
  have w2 : IntKind.i64.wrap 4 = 4 := by decide +kernel
  have hs : s_LenB64_0.data[12]? = some 4 := by decide +kernel
  simp [c_LenB64, I, w1, hs, w2]
  exact fin0
theorem LenB_12 : ECalls Tryz.prog 152 [.lit (.int .u64 12)] [] fun y H' => H' = [] ∧ y = I .i64 4 := by
  refine ecalls k_LenB ?_
  simp [c_LenB, I]
  refine call0 LenB64_12 (by simp) ?_
  rintro y H' ⟨rfl, rfl⟩
  refine ⟨.inl (by simp [I]), le_ok rfl, ?_⟩
  simp [I]
  exact fin0
theorem LenB64_13 : ECalls Tryz.prog 184 [.lit (.int .u64 13)] [] fun y H' => H' = [] ∧ y = I .i64 4 := by
  refine ecalls k_LenB64 ?_
  have w1 : IntKind.u8.wrap 13 = 13 := by decide +kernel
  have w2 : IntKind.i64.wrap 4 = 4 := by decide +kernel
  have hs : s_LenB64_0.data[13]? = some 4 := by decide +kernel
  simp [c_LenB64, I, w1, hs, w2]
  exact fin0
theorem LenB_13 : ECalls Tryz.prog 152 [.lit (.int .u64 13)] [] fun y H' => H' = [] ∧ y = I .i64 4 := by
  refine ecalls k_LenB ?_
  simp [c_LenB, I]
  refine call0 LenB64_13 (by simp) ?_
  rintro y H' ⟨rfl, rfl⟩
  refine ⟨.inl (by simp [I]), le_ok rfl, ?_⟩
  simp [I]
  exact fin0
theorem LenB64_14 : ECalls Tryz.prog 184 [.lit (.int .u64 14)] [] fun y H' => H' = [] ∧ y = I .i64 4 := by
  refine ecalls k_LenB64 ?_
  have w1 : IntKind.u8.wrap 14 = 14 := by decide +kernel
  have w2 : IntKind.i64.wrap 4 = 4 := by decide +kernel
  have hs : s_LenB64_0.data[14]? = some 4 := by decide +kernel
  simp [c_LenB64, I, w1, hs, w2]
  exact fin0
theorem LenB_14 : ECalls Tryz.prog 152 [.lit (.int .u64 14)] [] fun y H' => H' = [] ∧ y = I .i64 4 := by
  refine ecalls k_LenB ?_
  simp [c_LenB, I]
  refine call0 LenB64_14 (by simp) ?_
  rintro y H' ⟨rfl, rfl⟩
  refine ⟨.inl (by simp [I]), le_ok rfl, ?_⟩
  simp [I]
  exact fin0
theorem LenB64_15 : ECalls Tryz.prog 184 [.lit (.int .u64 15)] [] fun y H' => H' = [] ∧ y = I .i64 4 := by
  refine ecalls k_LenB64 ?_
  have w1 : IntKind.u8.wrap 15 = 15 := by decide +kernel
  have w2 : IntKind.i64.wrap 4 = 4 := by decide +kernel
  have hs : s_LenB64_0.data[15]? = some 4 := by decide +kernel
  simp [c_LenB64, I, w1, hs, w2]
  exact fin0
theorem LenB_15 : ECalls Tryz.prog 152 [.lit (.int .u64 15)] [] fun y H' => H' = [] ∧ y = I .i64 4 := by
  refine ecalls k_LenB ?_
  simp [c_LenB, I]
  refine call0 LenB64_15 (by simp) ?_
  rintro y H' ⟨rfl, rfl⟩
  refine ⟨.inl (by simp [I]), le_ok rfl, ?_⟩
  simp [I]
  exact fin0
theorem LenB64_16 : ECalls Tryz.prog 184 [.lit (.int .u64 16)] [] fun y H' => H' = [] ∧ y = I .i64 5 := by
  refine ecalls k_LenB64 ?_
  have w1 : IntKind.u8.wrap 16 = 16 := by decide +kernel
  have w2 : IntKind.i64.wrap 5 = 5 := by decide +kernel
  have hs : s_LenB64_0.data[16]? = some 5 := by decide +kernel
  simp [c_LenB64, I, w1, hs, w2]
  exact fin0
theorem LenB_16 : ECalls Tryz.prog 152 [.lit (.int .u64 16)] [] fun y H' => H' = [] ∧ y = I .i64 5 := by
  refine ecalls k_LenB ?_
  simp [c_LenB, I]
  refine call0 LenB64_16 (by simp) ?_
  rintro y H' ⟨rfl, rfl⟩
  refine ⟨.inl (by simp [I]), le_ok rfl, ?_⟩
  simp [I]
  exact fin0
theorem LenB_n (n : Nat) (h1 : 1 ≤ n) (h2 : n ≤ 16) : ∃ m : Int, 0 < m ∧ m ≤ 5 ∧ ECalls Tryz.prog 152 [.lit (.int .u64 (n : Int))] [] fun y H' => H' = [] ∧ y = I .i64 m := by
  rcases (by omega : n = 1 ∨ n = 2 ∨ n = 3 ∨ n = 4 ∨ n = 5 ∨ n = 6 ∨ n = 7 ∨ n = 8 ∨ n = 9 ∨ n = 10 ∨ n = 11 ∨ n = 12 ∨ n = 13 ∨ n = 14 ∨ n = 15 ∨ n = 16) with rfl | rfl | rfl | rfl | rfl | rfl | rfl | rfl | rfl | rfl | rfl | rfl | rfl | rfl | rfl | rfl
  · exact ⟨1, by omega, by omega, LenB_1⟩
  · exact ⟨2, by omega, by omega, LenB_2⟩
  · exact ⟨2, by omega, by omega, LenB_3⟩
  · exact ⟨3, by omega, by omega, LenB_4⟩
  · exact ⟨3, by omega, by omega, LenB_5⟩
  · exact ⟨3, by omega, by omega, LenB_6⟩
  · exact ⟨3, by omega, by omega, LenB_7⟩
  · exact ⟨4, by omega, by omega, LenB_8⟩
  · exact ⟨4, by omega, by omega, LenB_9⟩
  · exact ⟨4, by omega, by omega, LenB_10⟩
  · exact ⟨4, by omega, by omega, LenB_11⟩
  · exact ⟨4, by omega, by omega, LenB_12⟩
  · exact ⟨4, by omega, by omega, LenB_13⟩
  · exact ⟨4, by omega, by omega, LenB_14⟩
  · exact ⟨4, by omega, by omega, LenB_15⟩
  · exact ⟨5, by omega, by omega, LenB_16⟩
theorem ris_lt {l : List Int} (h : RisI l) : ∀ (d i : Nat) (a b : Int), l[i]? = some a → l[i + 1 + d]? = some b → a < b
  | 0, i, a, b, ha, hb => h i a b ha hb
  | d + 1, i, a, b, ha, hb => by
    have hlt : i + 1 + (d + 1) < l.length := lt_of_get hb
    obtain ⟨c, hc⟩ : ∃ c, l[i + 1]? = some c := ⟨l[i + 1], by simp [show i + 1 < l.length by omega]⟩
    have h1 := h i a c ha hc
    have h2 := ris_lt h d (i + 1) c b hc (by rw [← hb]; congr 1; omega)
    omega
def BXn (x : Int) : EO := .box 3 [.fz (.lit (.int .i64 x))]
theorem Ord2I_ok (l : List Int) (h : RisI l) (i j : Nat) (hij : i < j) (hj : j < l.length) (hn : l.length ≤ 1000) : ECalls Tryz.prog 201 [IL l, I .i64 i, I .i64 j, Ptr 0] [BXn 0] fun y H' => H' = [some (BXn 0)] ∧ y = .tup [.c (.fz (.lit (.int .i64 i))), .c (.fz (.lit (.int .i64 j)))] := by
  obtain ⟨a, ha⟩ : ∃ a, l[i]? = some a := ⟨l[i], by simp [show i < l.length by omega]⟩
  obtain ⟨b, hb⟩ : ∃ b, l[j]? = some b := ⟨l[j], by simp [hj]⟩
  have hab : ¬ b < a := by
    have := ris_lt h (j - i - 1) i a b ha (by rw [← hb]; congr 1; omega)
    omega
  have ga : ∀ h2, (intv l)[i]'h2 = [.lit (.int .i64 a)] := fun h2 => by rw [intv_at (by omega), ha]; rfl
  have gb : ∀ h2, (intv l)[j]'h2 = [.lit (.int .i64 b)] := fun h2 => by rw [intv_at (by omega), hb]; rfl
  have hi' : i < l.length := by omega
  refine ecalls k_Ord2I ?_
  simp [c_Ord2I, I, IL, Ptr, BXn, ga, gb, hi', hj]
  refine call0 (LessI_ok b a) (by simp [I]) ?_
  rintro y H' ⟨rfl, rfl⟩
  refine ⟨.inl (by simp), le_ok rfl, ?_⟩
  rw [decide_eq_false hab]
  simp [I, BXn]
  exact fin [] (by decide) rfl rfl (by simp [objsOut, BXn, show List.range 1 = [0] from rfl]) ⟨rfl, rfl⟩
theorem MedI_ok (l : List Int) (h : RisI l) (i j k : Nat) (hij : i < j) (hjk : j < k) (hk : k < l.length) (hn : l.length ≤ 1000) : ECalls Tryz.prog 198 [IL l, I .i64 i, I .i64 j, I .i64 k, Ptr 0] [BXn 0] fun y H' => H' = [some (BXn 0)] ∧ y = I .i64 j := by
  refine ecalls k_MedI ?_
  simp [c_MedI, I, IL, Ptr, BXn]
  refine callH [0] (Ord2I_ok l h i j hij (by omega) hn) (by simp [I, IL, Ptr]) (by simp [BXn]) (by simp) (by simp) (by simp) ?_
  rintro y H' ⟨rfl, rfl⟩
  refine ⟨.inl (by simp [BXn]), by simp, ?_⟩
  simp [I, IL, Ptr, BXn]
  refine callH [0] (Ord2I_ok l h j k hjk hk hn) (by simp [I, IL, Ptr]) (by simp [BXn]) (by simp) (by simp) (by simp) ?_
  rintro y H' ⟨rfl, rfl⟩
  refine ⟨.inl (by simp [BXn]), by simp, ?_⟩
  simp [I, IL, Ptr, BXn]
  refine callH [0] (Ord2I_ok l h i j hij (by omega) hn) (by simp [I, IL, Ptr]) (by simp [BXn]) (by simp) (by simp) (by simp) ?_
  rintro y H' ⟨rfl, rfl⟩
  refine ⟨.inl (by simp [BXn]), by simp, ?_⟩
  simp [I, IL, Ptr, BXn]
  exact fin [] (by decide) rfl rfl (by simp [objsOut, BXn, show List.range 1 = [0] from rfl]) ⟨rfl, rfl⟩
theorem ChpI_ok (l : List Int) (h : RisI l) (n : Nat) (hl : l.length = n) (h1 : 13 ≤ n) (h2 : n ≤ 16) : ∃ p : Int, ECalls Tryz.prog 178 [IL l, I .i64 0, I .i64 n] [] fun y H' => H' = [] ∧ y = .tup [.c (.fz (.lit (.int .i64 p))), .c (.fz (.lit (.int .i64 1)))] := by
  have key : ∀ q : Nat, 1 ≤ q → q ≤ 4 → 4 * q ≤ n → n < 4 * q + 4 → ECalls Tryz.prog 178 [IL l, I .i64 0, I .i64 n] [] fun y H' => H' = [] ∧ y = .tup [.c (.fz (.lit (.int .i64 ((q * 2 : Nat) : Int)))), .c (.fz (.lit (.int .i64 1)))] := by
    intro q q1 q2 q3 q4
    have d0 : IntKind.i64.wrap ((n : Int) - 0) = n := by rw [wrap_i64 (by omega) (by omega)]; omega
    have d0' : IntKind.i64.wrap (n : Int) = n := wrap_i64 (by omega) (by omega)
    have dq : ((n : Int).tdiv 4) = (q : Int) := by rw [Int.tdiv_eq_ediv_of_nonneg (by omega)]; omega
    have d1 : IntKind.i64.wrap ((n : Int).tdiv 4) = (q : Int) := by rw [dq, wrap_i64 (by omega) (by omega)]
    have d1q : IntKind.i64.wrap (q : Int) = (q : Int) := wrap_i64 (by omega) (by omega)
    have d2 : IntKind.i64.wrap ((q : Int) * 2) = ((q * 2 : Nat) : Int) := by rw [wrap_i64 (by omega) (by omega)]; omega
    have d3 : IntKind.i64.wrap ((q : Int) * 3) = ((q * 3 : Nat) : Int) := by rw [wrap_i64 (by omega) (by omega)]; omega
    have d2q : IntKind.i64.wrap ((q * 2 : Nat) : Int) = ((q * 2 : Nat) : Int) := wrap_i64 (by omega) (by omega)
    have d3q : IntKind.i64.wrap ((q * 3 : Nat) : Int) = ((q * 3 : Nat) : Int) := wrap_i64 (by omega) (by omega)
    have g8 : (8 : Int) ≤ n := by omega
    have g50 : ¬ (50 : Int) ≤ n := by omega
    have hM := MedI_ok l h q (q * 2) (q * 3) (by omega) (by omega) (by omega) (by omega)
    generalize hA : q * 2 = A at d2 d2q hM
    generalize hB : q * 3 = B at d3 d3q hM
    refine ecalls k_ChpI ?_
    simp [c_ChpI, I, IL, Ptr, d0, d0', dq, d1, d1q, d2, d3, d2q, d3q, g8, g50]
    refine callH [96] hM (by simp [I, IL, Ptr]) (by simp [BXn]) (by simp) (by simp) (by simp) ?_
    rintro y H' ⟨rfl, rfl⟩
    refine ⟨.inl (by simp [BXn]), by simp, ?_⟩
    simp [I, IL, Ptr, BXn]
    exact fin0
  rcases (by omega : n < 16 ∨ n = 16) with e | e
  · exact ⟨_, key 3 (by omega) (by omega) (by omega) (by omega)⟩
  · exact ⟨_, key 4 (by omega) (by omega) (by omega) (by omega)⟩
theorem PisI_ok (l : List Int) (h : RisI l) (n : Nat) (hl : l.length = n) (h1 : 1 ≤ n) (h2 : n ≤ 1000) : ECalls Tryz.prog 180 [IL l, I .i64 0, I .i64 n] [] fun y H' => H' = [] ∧ y = .lit (.bool true) := by
  have w0 : IntKind.i64.wrap 1 = 1 := by decide +kernel
  refine ecalls k_PisI ?_
  simp [c_PisI, I, IL, w0]
  refine eloop (α := Unit) (fun _ => True) (fun _ => 0) (fun _ => [IL l, I .i64 0, I .i64 n, xA, xA, xA, xA, I .i64 1, I .i64 0, xA, xA, xA, xA, xA, xA, xA, xA, xA, xA, xA, xA, xA, xA, xA, xA, xA, xA, xA, xA, xA, xA, xA, xA, xA, xA, xA, xA, xA, xA, xA, xA, xA, xA, xA, xA, xA, xA, xA, xA, xA, xA, xA, xA, xA, xA, xA, xA, xA, xA, xA, xA, xA, xA, xA, xA, xA, xA, xA, xA, xA, xA, xA, xA, xA, xA, xA, xA, xA, xA, xA, xA, xA, xA, xA, xA, xA, xA, xA, xA, xA, xA, xA, xA, xA, xA, xA, xA, xA, xA, xA, xA, xA, xA, xA, xA, xA, xA, xA, xA, xA, xA, xA, xA, xA, xA, xA, xA, xA, xA, xA, xA, xA, xA, xA, xA, xA, xA, xA, xA, xA, xA, xA, .any]) (fun _ => []) () []
    trivial (by simp [I, IL]) (by simp) (by simp) (by simp) (by simp) ?_
  rintro _ _
  simp [I, IL]
  refine eloop (α := Nat) (fun i => 1 ≤ i ∧ i ≤ n) (fun i => n - i) (fun i => [IL l, I .i64 0, I .i64 n, xA, xA, xA, xA, I .i64 i, I .i64 0, xA, xA, xA, xA, xA, xA, xA, xA, xA, xA, xA, xA, xA, xA, xA, xA, xA, xA, xA, xA, xA, xA, xA, xA, xA, xA, xA, xA, xA, xA, xA, xA, xA, xA, xA, xA, xA, xA, xA, xA, xA, xA, xA, xA, xA, xA, xA, xA, xA, xA, xA, xA, xA, xA, xA, xA, xA, xA, xA, xA, xA, xA, xA, xA, xA, xA, xA, xA, xA, xA, xA, xA, xA, xA, xA, xA, xA, xA, xA, xA, xA, xA, xA, xA, xA, xA, xA, xA, xA, xA, xA, xA, xA, xA, xA, xA, xA, xA, xA, xA, xA, xA, xA, xA, xA, xA, xA, xA, xA, xA, xA, xA, xA, xA, xA, xA, xA, xA, xA, xA, xA, xA, xA, .any]) (fun _ => []) 1 []
    ⟨by omega, by omega⟩ (by simp [I, IL]) (by simp) (by simp) (by simp) (by simp) ?_
  rintro i ⟨hi1, hi2⟩
  by_cases hlt : i < n
  · have hli : (i : Int) < n := by omega
    have hll : i < l.length := by omega
    obtain ⟨p, rfl⟩ : ∃ p, i = p + 1 := ⟨i - 1, by omega⟩
    obtain ⟨a, ha⟩ : ∃ a, l[p]? = some a := ⟨l[p], by simp [show p < l.length by omega]⟩
    obtain ⟨b, hb⟩ : ∃ b, l[p + 1]? = some b := ⟨l[p + 1], by simp [hll]⟩
    have hab : ¬ b < a := by have := h p a b ha hb; omega
    have wj : IntKind.i64.wrap (((p + 1 : Nat) : Int) - 1) = (p : Int) := by rw [wrap_i64 (by omega) (by omega)]; omega
    have w1 : IntKind.i64.wrap (((p + 1 : Nat) : Int) + 1) = ((p + 1 + 1 : Nat) : Int) := wrap_i64 (by omega) (by omega)
    have ga : ∀ h2, (intv l)[p]'h2 = [.lit (.int .i64 a)] := fun h2 => by rw [intv_at (by omega), ha]; rfl
    have gb : ∀ h2, (intv l)[p + 1]'h2 = [.lit (.int .i64 b)] := fun h2 => by rw [intv_at (by omega), hb]; rfl
    have hpl : p < l.length := by omega
    generalize hje : p + 1 = j at *
    have n0 : ¬ ((j : Int) < 0) := by omega
    have n1 : ¬ ((p : Int) < 0) := by omega
    simp [I, IL, hli, hlt, wj, ga, gb, hpl, hll, n0, n1]
    refine call0 (LessI_ok b a) (by simp [I]) ?_
    rintro y H' ⟨rfl, rfl⟩
    refine ⟨.inl (by simp), le_ok rfl, ?_⟩
    rw [decide_eq_false hab]
    simp [I, IL, w1, -Int.natCast_add]
    exact round (j + 1) [] ⟨by omega, by omega⟩ (by omega) (by simp [I, IL]) (by simp) (by simp) (by simp) (by simp)
  · have h3' : i = n := by omega
    subst h3'
    simp [I, IL]
    exact fin0
theorem PdqN_ok (l : List Int) (n : Nat) (k : Int) (hl : l.length = n) (h1 : 1 ≤ n) (h2 : n ≤ 16) (hk : 0 < k) (hr : n ≤ 12 ∨ RisI l) : ECalls Tryz.prog 151 [.v (.c (.row 0 n)), I .i64 0, I .i64 n, I .i64 k] [.row 3 1 (intv l)] fun y H' => H' = [some (.row 3 1 (intv (insN l)))] ∧ y = .tup [] := by
  have w0 : IntKind.i64.wrap (n : Int) = n := wrap_i64 (by omega) (by omega)
  have w0' : IntKind.i64.wrap ((n : Int) - 0) = n := by rw [wrap_i64 (by omega) (by omega)]; omega
  have hT : List.take n (intv l) = intv l := List.take_of_length_le (by simp [intv, hl])
  refine ecalls k_PdqI ?_
  simp [c_PdqI, I]
  refine eloop (α := Nat) (fun i => i = 0) (fun i => i) (fun i => [.v (.c (.row 0 n)), I .i64 0, I .i64 n, I .i64 k, xA, xA, xA, xA, .lit (.bool true), .lit (.bool true), xA, xA, xA, xA, xA, xA, xA, xA, xA, xA, xA, xA, xA, xA, xA, xA, xA, xA, xA, xA, xA, xA, xA, xA, xA, xA, xA, xA, xA, xA, xA, xA, xA, xA, xA, xA, xA, xA, xA, xA, xA, xA, xA, xA, xA, xA, xA, xA, xA, xA, xA, xA, xA, xA, xA, xA, xA, xA, xA, xA, xA, xA, xA, xA, xA, xA, xA, xA, xA, xA, xA, xA, xA, xA, xA, xA, xA, xA, xA, xA, xA, xA, xA, xA, xA, xA, xA, xA, xA, xA, xA, xA, xA, xA, xA, xA, xA, xA, xA, xA, xA, xA, xA, xA, xA, xA, xA, xA, xA, xA, xA, xA, xA, xA, xA, xA, xA, xA, xA, xA, xA, xA, xA, .any]) (fun _ => [some (.row 3 1 (intv l))]) 0 [0]
    rfl (by simp [I]) (by simp) (by simp) (by simp) (by simp) ?_
  rintro i rfl
  by_cases h12 : n ≤ 12
  · have g12 : (n : Int) ≤ 12 := by omega
    simp [I, w0, w0', h12, g12]
    refine callH [0] (InsN_ok l n hl h1 (by omega)) (by simp [I]) (by simp) (by simp) (by simp) (by simp) ?_
    rintro y H' ⟨rfl, rfl⟩
    refine ⟨.inl (by simp), by simp, ?_⟩
    simp
    exact fin [] (by decide) rfl rfl (by simp [objsOut, show List.range 1 = [0] from rfl]) ⟨rfl, rfl⟩
  · have hR := hr.resolve_left h12
    have g12 : ¬ (n : Int) ≤ 12 := by omega
    have gk : ¬ k = 0 := by omega
    obtain ⟨p, hP⟩ := ChpI_ok l hR n hl (by omega) h2
    rw [ins_ris hR]
    simp [I, w0, w0', h12, g12, gk]
    refine call0 hP (by simp [I, IL, hT]) ?_
    rintro y H' ⟨rfl, rfl⟩
    refine ⟨.inr ⟨rfl, by simp⟩, le_ok rfl, ?_⟩
    simp [I, w0, w0', h12, g12, gk]
    refine call0 (PisI_ok l hR n hl h1 (by omega)) (by simp [I, IL, hT]) ?_
    rintro y H' ⟨rfl, rfl⟩
    refine ⟨.inr ⟨rfl, by simp⟩, le_ok rfl, ?_⟩
    simp
    exact fin [] (by decide) rfl rfl (by simp [objsOut, show List.range 1 = [0] from rfl]) ⟨rfl, rfl⟩
theorem SortN_ok (l : List Int) (n : Nat) (hl : l.length = n) (h1 : 1 ≤ n) (h2 : n ≤ 16) (hr : n ≤ 12 ∨ RisI l) : ECalls Tryz.prog 101 [.v (.c (.row 0 n))] [.row 3 1 (intv l)] fun y H' => H' = [some (.row 3 1 (intv (insN l)))] ∧ y = .tup [] := by
  have w0 : IntKind.u64.wrap (n : Int) = n := by simp [IntKind.wrap, IntKind.bits, IntKind.signed]; omega
  obtain ⟨m, m1, m2, hm⟩ := LenB_n n h1 h2
  refine ecalls k_SortI ?_
  simp [c_SortI, I, w0]
  refine call0 hm (by simp) ?_
  rintro y H' ⟨rfl, rfl⟩
  refine ⟨.inl (by simp [I]), le_ok rfl, ?_⟩
  simp [I]
  refine callH [0] (PdqN_ok l n m hl h1 h2 m1 hr) (by simp [I]) (by simp) (by simp) (by simp) (by simp) ?_
  rintro y H' ⟨rfl, rfl⟩
  refine ⟨.inl (by simp), by simp, ?_⟩
  simp
  exact fin [] (by decide) rfl rfl (by simp [objsOut, show List.range 1 = [0] from rfl]) ⟨rfl, rfl⟩
end Go.Proofs.YtflcfdeanneoeaaGreatDoor
