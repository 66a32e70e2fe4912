import Derived.Test.YtddcceahaigodaaGreatDoorAll8
set_option maxHeartbeats 64000000
namespace Go.Proofs.YtddcceahaigodaaGreatDoor
open Go Go.EW
set_option linter.unusedSimpArgs false
set_option linter.unusedVariables false
def yl1ho : UL | _ => [xM 12 4 16]
def yl1hp : UL | _ => xR 6 11 7 10 :: xM 7 12 11 :: yM 8 13 12 false 0 :: yM 9 14 12 false 1 :: xG 10 15 12 false (.bin .lss (.t 13) (.t 14)) :: xP 11 16 12 15 :: hid yl1ho
def yl1hq : UL | _ => xM 0 5 0 :: xO 1 6 (.call 155 [.t 5]) :: xM 2 7 6 :: yM 3 8 7 true 1 :: ⟨4, (some 9), (some (7, true)), (.call 155 [.t 8]), []⟩ :: xG 5 10 7 true (.un .not (.t 9)) :: hid yl1hp
def yb1hr : UB | _ => .seq (reg0 [xQ 0 4 (.mov (.k (.bool false)))] 1) (.seq (reg0 (hid yl1hq) 13) .ret)
attribute [simp] yl1ho yl1hp yl1hq yb1hr
def c_LessI : EB × List QOp × Nat := ((hid yb1hr), [(.mov (.t 4))], 17)
theorem k_LessI : cfun Tryz.prog 104 = some c_LessI := by kernel_rfl
def yl1hv : UL | _ => [yL 12 28 19 true 27, ⟨13, (some 29), (some (19, true)), (.call 104 [.t 23, .t 28]), []⟩, xR 14 30 19 29]
def yl1hw : UL | _ => xG 6 22 19 true (.isl 1 (.t 20) (.t 21)) :: yL 7 23 19 true 22 :: yM 8 24 19 true 0 :: yM 9 25 19 true 7 :: xG 10 26 19 true (.bin .sub (.t 25) (xK 1)) :: xG 11 27 19 true (.isl 1 (.t 24) (.t 26)) :: hid yl1hv
def yl1hx : UL | _ => xM 0 16 7 :: xM 1 17 1 :: xb 2 18 .gtr 16 17 :: xM 3 19 18 :: yM 4 20 19 true 0 :: yM 5 21 19 true 7 :: hid yl1hw
def yl1hy : UL | _ => [xI 12 45 1 43 44, xL 13 46 45, xI 14 47 1 33 34, ⟨15, none, none, (.sto 1 (.t 47) (.t 42)), [2, 3, 4]⟩, xI 16 48 1 35 37, xN 17 (.sto 1 (.t 48) (.t 46))]
def yl1hz : UL | _ => xM 6 39 7 :: xc 7 40 .sub 39 1 :: xI 8 41 1 38 40 :: xL 9 42 41 :: xM 10 43 0 :: xM 11 44 7 :: hid yl1hy
def yl1i0 : UL | _ => xM 0 33 0 :: xM 1 34 7 :: xM 2 35 0 :: xM 3 36 7 :: xc 4 37 .sub 36 1 :: xM 5 38 0 :: hid yl1hz
def yb1i3 : UB | _ => .block 1 (.seq (reg0 [xM 0 15 6, xM 1 7 15] 2) (.block 2 (.loop (.seq (.seq (reg0 (hid yl1hx) 15) (.cond (.t 30) .skip (.exit 2))) (.seq (.block 3 (reg1 (hid yl1i0) 18)) (reg0 [xM 0 31 7, xc 1 32 .sub 31 1, xM 2 7 32] 3))))))
def yb1i5 : UB | _ => .seq (.seq (reg0 [xM 0 10 6, xM 1 11 2, xb 2 12 .lss 10 11] 3) (.cond (.t 12) .skip (.exit 0))) (.seq (hid yb1i3) (reg0 [xM 0 13 6, xc 1 14 .add 13 1, xM 2 6 14] 3))
def yb1i6 : UB | _ => .seq (reg0 [xM 0 8 1, xc 1 9 .add 8 1, xM 2 6 9] 3) (.block 0 (.loop (hid yb1i5)))
attribute [simp] yl1hv yl1hw yl1hx yl1hy yl1hz yl1i0 yb1i3 yb1i5 yb1i6
def c_InsI : EB × List QOp × Nat := ((hid yb1i6), [], 49)
theorem k_InsI : cfun Tryz.prog 145 = some c_InsI := by kernel_rfl
def yl1ib : UL | _ => [xM 0 24 0, xM 1 25 1, xM 2 26 2, xO 3 27 (.call 145 [.t 24, .t 25, .t 26])]
def yl1ie : UL | _ => [xM 0 30 0, xM 1 31 1, xM 2 32 2, xO 3 33 (.call 146 [.t 30, .t 31, .t 32])]
def yl1ih : UL | _ => [xM 0 36 0, xM 1 37 1, xM 2 38 2, xO 3 39 (.call 147 [.t 36, .t 37, .t 38])]
def yl1ik : UL | _ => [xX 6 48 1 42, xM 7 11 47, xM 8 12 48]
def yl1il : UL | _ => xM 0 43 0 :: xM 1 44 1 :: xM 2 45 2 :: xO 3 46 (.call 148 [.t 43, .t 44, .t 45]) :: xM 4 42 46 :: xX 5 47 0 42 :: hid yl1ik
def yl1in : UL | _ => [xM 0 51 0, xM 1 52 1, xM 2 53 2, xO 3 54 (.call 149 [.t 51, .t 52, .t 53])]
def yl1io : UL | _ => [xM 6 11 60]
def yl1ip : UL | _ => xM 0 55 2 :: xc 1 56 .sub 55 1 :: xM 2 57 11 :: xM 3 58 1 :: xb 4 59 .sub 57 58 :: xb 5 60 .sub 56 59 :: hid yl1io
def yl1is : UL | _ => [xG 6 67 65 true (.bin .eql (.t 66) (xK 1)), xR 7 68 65 67]
def yl1it : UL | _ => xM 0 61 8 :: xM 1 62 61 :: yM 2 63 62 true 9 :: xR 3 64 62 63 :: xM 4 65 64 :: yM 5 66 65 true 12 :: hid yl1is
def yl1iu : UL | _ => [xM 0 69 0, xM 1 70 1, xM 2 71 2, xO 3 72 (.call 150 [.t 69, .t 70, .t 71])]
def yl1iw : UL | _ => [⟨12, (some 85), (some (75, true)), (.call 104 [.t 80, .t 84]), []⟩, xG 13 86 75 true (.un .not (.t 85)), xR 14 87 75 86]
def yl1ix : UL | _ => xG 6 79 75 true (.isl 1 (.t 76) (.t 78)) :: yL 7 80 75 true 79 :: yM 8 81 75 true 0 :: yM 9 82 75 true 11 :: xG 10 83 75 true (.isl 1 (.t 81) (.t 82)) :: yL 11 84 75 true 83 :: hid yl1iw
def yl1iy : UL | _ => xM 0 73 1 :: xc 1 74 .gtr 73 0 :: xM 2 75 74 :: yM 3 76 75 true 0 :: yM 4 77 75 true 1 :: xG 5 78 75 true (.bin .sub (.t 77) (xK 1)) :: hid yl1ix
def yl1iz : UL | _ => [xM 0 88 0, xM 1 89 1, xM 2 90 2, xM 3 91 11, xO 4 92 (.call 151 [.t 88, .t 89, .t 90, .t 91]), xM 5 13 92]
def yl1j2 : UL | _ => [xX 6 100 0 94, xX 7 101 1 94, xM 8 14 100, xM 9 15 101]
def yl1j3 : UL | _ => xM 0 95 0 :: xM 1 96 1 :: xM 2 97 2 :: xM 3 98 11 :: xO 4 99 (.call 152 [.t 95, .t 96, .t 97, .t 98]) :: xM 5 94 99 :: hid yl1j2
def yl1j5 : UL | _ => [xM 6 16 105, xM 7 17 108]
def yl1j6 : UL | _ => xM 0 103 14 :: xM 1 104 1 :: xb 2 105 .sub 103 104 :: xM 3 106 2 :: xM 4 107 14 :: xb 5 108 .sub 106 107 :: hid yl1j5
def yl1ja : UL | _ => [xM 0 117 0, xM 1 118 1, xM 2 119 14, xM 3 120 3, xO 4 121 (.call 102 [.t 117, .t 118, .t 119, .t 120])]
def yl1je : UL | _ => [xM 0 127 0, xM 1 128 14, xc 2 129 .add 128 1, xM 3 130 2, xM 4 131 3, xO 5 132 (.call 102 [.t 127, .t 129, .t 130, .t 131])]
def yb1jg : UB | _ => .seq (reg0 [xM 0 124 17, xM 1 125 18, xb 2 126 .geq 124 125, xM 3 8 126] 4) (.seq (reg0 (hid yl1je) 6) (reg0 [xM 0 133 14, xM 1 2 133] 2))
def yb1jh : UB | _ => .seq (reg0 [xM 0 111 16, xM 1 112 17, xb 2 113 .lss 111 112] 3) (.cond (.t 113) (.seq (reg0 [xM 0 114 16, xM 1 115 18, xb 2 116 .geq 114 115, xM 3 8 116] 4) (.seq (reg0 (hid yl1ja) 5) (reg0 [xM 0 122 14, xc 1 123 .add 122 1, xM 2 1 123] 3))) (hid yb1jg))
def yb1ji : UB | _ => .seq (reg0 (hid yl1j6) 8) (.seq (reg0 [xM 0 109 10, xc 1 110 .quo 109 8, xM 2 18 110] 3) (hid yb1jh))
def yb1jj : UB | _ => .seq (reg0 (hid yl1j3) 10) (.seq (reg0 [xM 0 102 15, xM 1 9 102] 2) (hid yb1ji))
def yb1jk : UB | _ => .seq (.seq (reg0 (hid yl1iy) 15) (.cond (.t 87) (.seq (reg0 (hid yl1iz) 6) (.seq (reg0 [xM 0 93 13, xM 1 1 93] 2) (.exit 1))) .skip)) (hid yb1jj)
def yb1jl : UB | _ => .seq (.seq (reg0 [xM 0 49 12, xc 1 50 .eql 49 2] 2) (.cond (.t 50) (.seq (reg0 (hid yl1in) 4) (.seq (reg0 (hid yl1ip) 7) (reg0 [xC 0 12 1] 1))) .skip)) (.seq (.seq (reg0 (hid yl1it) 8) (.cond (.t 68) (.seq (reg0 (hid yl1iu) 4) (.cond (.t 72) .ret .skip)) .skip)) (hid yb1jk))
def yb1jm : UB | _ => .seq (.seq (reg0 [xM 0 34 8, xQ 1 35 (.un .not (.t 34))] 2) (.cond (.t 35) (.seq (reg0 (hid yl1ih) 4) (reg0 [xM 0 40 3, xc 1 41 .sub 40 1, xM 2 3 41] 3)) .skip)) (.seq (reg0 (hid yl1il) 9) (hid yb1jl))
def yb1jn : UB | _ => .seq (reg0 [xM 0 19 2, xM 1 20 1, xb 2 21 .sub 19 20, xM 3 10 21] 4) (.seq (.seq (reg0 [xM 0 22 10, xc 1 23 .leq 22 12] 2) (.cond (.t 23) (.seq (reg0 (hid yl1ib) 4) .ret) .skip)) (.seq (.seq (reg0 [xM 0 28 3, xc 1 29 .eql 28 0] 2) (.cond (.t 29) (.seq (reg0 (hid yl1ie) 4) .ret) .skip)) (hid yb1jm)))
def yb1jp : UB | _ => .seq (reg0 [xQ 0 8 (.mov (.k (.bool true)))] 1) (.seq (reg0 [xQ 0 9 (.mov (.k (.bool true)))] 1) (.block 0 (.loop (.block 1 (hid yb1jn)))))
attribute [simp] yl1ib yl1ie yl1ih yl1ik yl1il yl1in yl1io yl1ip yl1is yl1it yl1iu yl1iw yl1ix yl1iy yl1iz yl1j2 yl1j3 yl1j5 yl1j6 yl1ja yl1je yb1jg yb1jh yb1ji yb1jj yb1jk yb1jl yb1jm yb1jn yb1jp
def c_PdqI : EB × List QOp × Nat := ((hid yb1jp), [], 134)
theorem k_PdqI : cfun Tryz.prog 102 = some c_PdqI := by kernel_rfl
def yl1jr : UL | _ => [xM 0 3 0, xQ 1 4 (.cnv .u32 (.t 3)), xO 2 5 (.call 153 [.t 4]), xM 3 2 5]
def yb1ju : UB | _ => .seq (reg0 [xC 0 2 0] 1) (.seq (.cond (.k (.bool false)) (.seq (reg0 (hid yl1jr) 4) .ret) .skip) (.seq (reg0 [xM 0 6 0, xO 1 7 (.call 154 [.t 6]), xM 2 2 7] 3) .ret))
attribute [simp] yl1jr yb1ju
def c_LenB : EB × List QOp × Nat := ((hid yb1ju), [(.mov (.t 2))], 8)
theorem k_LenB : cfun Tryz.prog 103 = some c_LenB := by kernel_rfl
def s_LenB64_0 : ByteArray := ⟨#[0, 1, 2, 2, 3, 3, 3, 3, 4, 4, 4, 4, 4, 4, 4, 4, 5, 5, 5, 5, 5, 5, 5, 5, 5, 5, 5, 5, 5, 5, 5, 5, 6, 6, 6, 6, 6, 6, 6, 6, 6, 6, 6, 6, 6, 6, 6, 6, 6, 6, 6, 6, 6, 6, 6, 6, 6, 6, 6, 6, 6, 6, 6, 6, 7, 7, 7, 7, 7, 7, 7, 7, 7, 7, 7, 7, 7, 7, 7, 7, 7, 7, 7, 7, 7, 7, 7, 7, 7, 7, 7, 7, 7, 7, 7, 7, 7, 7, 7, 7, 7, 7, 7, 7, 7, 7, 7, 7, 7, 7, 7, 7, 7, 7, 7, 7, 7, 7, 7, 7, 7, 7, 7, 7, 7, 7, 7, 7, 8, 8, 8, 8, 8, 8, 8, 8, 8, 8, 8, 8, 8, 8, 8, 8, 8, 8, 8, 8, 8, 8, 8, 8, 8, 8, 8, 8, 8, 8, 8, 8, 8, 8, 8, 8, 8, 8, 8, 8, 8, 8, 8, 8, 8, 8, 8, 8, 8, 8, 8, 8, 8, 8, 8, 8, 8, 8, 8, 8, 8, 8, 8, 8, 8, 8, 8, 8, 8, 8, 8, 8, 8, 8, 8, 8, 8, 8, 8, 8, 8, 8, 8, 8, 8, 8, 8, 8, 8, 8, 8, 8, 8, 8, 8, 8, 8, 8, 8, 8, 8, 8, 8, 8, 8, 8, 8, 8, 8, 8, 8, 8, 8, 8, 8, 8, 8, 8, 8, 8, 8, 8, 8, 8, 8, 8, 8, 8]⟩
def yl1jw : UL | _ => [xM 0 3 0, xQ 1 4 (.bin .geq (.t 3) (.k (.int .u64 4294967296)))]
def yl1jx : UL | _ => [xM 0 5 0, xQ 1 6 (.bin .shr (.t 5) (.k (.int .u64 32))), xM 2 0 6]
def yl1k1 : UL | _ => [xM 0 9 0, xQ 1 10 (.bin .shr (.t 9) (.k (.int .u64 16))), xM 2 0 10]
def yl1k5 : UL | _ => [xM 0 15 0, xQ 1 16 (.bin .shr (.t 15) (.k (.int .u64 8))), xM 2 0 16]
def yl1k8 : UL | _ => [xM 6 2 24]
def yl1k9 : UL | _ => xM 0 19 2 :: xM 1 20 0 :: xQ 2 21 (.cnv .u8 (.t 20)) :: xQ 3 22 (.ixs (.k (.string s_LenB64_0)) (.t 21)) :: xQ 4 23 (.cnv .i64 (.t 22)) :: xb 5 24 .add 19 23 :: hid yl1k8
def yb1ka : UB | _ => .seq (.seq (reg0 [xM 0 13 0, xQ 1 14 (.bin .geq (.t 13) (.k (.int .u64 256)))] 2) (.cond (.t 14) (.seq (reg0 (hid yl1k5) 3) (reg0 [xM 0 17 2, xc 1 18 .add 17 8, xM 2 2 18] 3)) .skip)) (.seq (reg0 (hid yl1k9) 7) .ret)
def yb1kb : UB | _ => .seq (.seq (reg0 [xM 0 7 0, xQ 1 8 (.bin .geq (.t 7) (.k (.int .u64 65536)))] 2) (.cond (.t 8) (.seq (reg0 (hid yl1k1) 3) (reg0 [xM 0 11 2, xc 1 12 .add 11 16, xM 2 2 12] 3)) .skip)) (hid yb1ka)
def yb1kc : UB | _ => .seq (.seq (reg0 (hid yl1jw) 2) (.cond (.t 4) (.seq (reg0 (hid yl1jx) 3) (reg0 [xC 0 2 32] 1)) .skip)) (hid yb1kb)
def yb1kd : UB | _ => .seq (reg0 [xC 0 2 0] 1) (hid yb1kc)
attribute [simp] yl1jw yl1jx yl1k1 yl1k5 yl1k8 yl1k9 yb1ka yb1kb yb1kc yb1kd
def c_LenB64 : EB × List QOp × Nat := ((hid yb1kd), [(.mov (.t 2))], 25)
theorem k_LenB64 : cfun Tryz.prog 154 = some c_LenB64 := by kernel_rfl
def yl1kf : UL | _ => [xM 0 5 0, xM 1 6 2, xM 2 7 2, xQ 3 8 (.cnv .u64 (.t 7)), xO 4 9 (.call 103 [.t 8]), xO 5 10 (.call 102 [.t 5, (xK 0), .t 6, .t 9])]
def yb1kg : UB | _ => .seq (reg0 [xM 0 3 0, xE 1 4 3, xM 2 2 4] 3) (reg0 (hid yl1kf) 6)
attribute [simp] yl1kf yb1kg
def c_SortI : EB × List QOp × Nat := ((hid yb1kg), [], 11)
theorem k_SortI : cfun Tryz.prog 57 = some c_SortI := by kernel_rfl
theorem LessI_ok (a b : Int) : ECalls Tryz.prog 104 [I .i64 a, I .i64 b] [] fun y H' => H' = [] ∧ y = .lit (.bool (decide (a < b))) := by
 refine ecalls k_LessI ?_
 simp [c_LessI, I]
 refine call0 (NaNI_ok a) (by simp [I]) ?_
 rintro y H' ⟨rfl, rfl⟩
 refine ⟨.inl (by simp), le_ok rfl, ?_⟩
 simp
 exact fin0
def swS (l : List Int) (j : Nat) : List Int := (l.set (j + 1) ((l[j]?).getD 0)).set j ((l[j + 1]?).getD 0)
theorem swS_len (l : List Int) (j : Nat) : (swS l j).length = l.length := by simp [swS]
def sinkS : Nat → List Int → List Int
 | 0, l => l
 | j + 1, l => if (l[j + 1]?).getD 0 < (l[j]?).getD 0 then sinkS j (swS l j) else l
theorem sinkS_len : ∀ (j : Nat) (l : List Int), (sinkS j l).length = l.length
 | 0, _ => rfl
 | j + 1, l => by
  unfold sinkS
  split
  ·rw [sinkS_len j, swS_len]
  ·rfl
theorem intv_at {l : List Int} {i : Nat} (h : i < l.length) (h2 : i < (intv l).length) : (intv l)[i]'h2 = [.lit (.int .i64 ((l[i]?).getD 0))] := by
 simp [intv, h]
theorem intv_set (l : List Int) (i : Nat) (x : Int) : (intv l).set i [.lit (.int .i64 x)] = intv (l.set i x) := by simp [intv, List.map_set]
structure Prm where
 tx : List UInt8
 n : Int
 am : Int
 k0 : Int
 k1 : Int
 dl : Int
 fe : Int
structure Rte where
 f : Prm
 s : Prm
 a : Int
 b : Int
 c : Int
 am : Int
 fe : Int
def iC (n : Int) : EC := .fz (.lit (.int .i64 n))
def prmC (p : Prm) : List EC := hc p.tx ++ [iC p.n, iC p.am, iC p.k0, iC p.k1, iC p.dl, iC p.fe]
def rteC (r : Rte) : List EC := prmC r.f ++ (prmC r.s ++ [iC r.a, iC r.b, iC r.c, iC r.am, iC r.fe])
def PVv (p : Prm) : EV := .v (.agg (prmC p))
def Prm.ok (p : Prm) : Prop := p.tx.length = 32 ∧ i64 p.n ∧ i64 p.am ∧ i64 p.k0 ∧ i64 p.k1 ∧ i64 p.dl ∧ i64 p.fe
def Rte.ok (r : Rte) : Prop := r.f.ok ∧ r.s.ok ∧ i64 r.a ∧ i64 r.b ∧ i64 r.c ∧ i64 r.am ∧ i64 r.fe
section
variable {p : Prm} (h : p.tx.length = 32)
include h
theorem prmC_len : (prmC p).length = 38 := by simp [prmC, hc_len, h]
theorem pm_take : (prmC p).take 38 = prmC p := List.tkL (by rw [prmC_len h]; omega)
theorem pm_d34 : ((prmC p).drop 34).take 2 = [iC p.k0, iC p.k1] := by
 have e : (hc p.tx).length = 32 := by rw [hc_len, h]
 unfold prmC
 rw [List.drop_append, List.drop_of_length_le (by omega), e]
 rfl
end
section
variable {r : Rte} (hf : r.f.tx.length = 32) (hs : r.s.tx.length = 32)
include hf hs
end
theorem conAll_mp (H : Nat → Option EO) (ids : List Nat) : ∀ l : List FV, conAll H ids (l.map EC.fz) = some (l.map EC.fz)
 | [] => rfl
 | a :: r => by simp only [List.map_cons, conAll, conC, conAll_mp H ids r]; rfl
theorem strAll_mp (ids : List Nat) : ∀ l : List FV, strAll ids (l.map EC.fz) = some (l.map EC.fz)
 | [] => rfl
 | a :: r => by simp only [List.map_cons, strAll, strC, strAll_mp ids r]; rfl
theorem frzAll_mp : ∀ l : List FV, frzAll (l.map EC.fz) = some l
 | [] => rfl
 | a :: r => by simp only [List.map_cons, frzAll, frz, frzAll_mp r]; rfl
theorem refs_mp : ∀ l : List FV, (l.map EC.fz).flatMap refsC = []
 | [] => rfl
 | a :: r => by simp only [List.map_cons, List.flatMap_cons, refs_mp r]; rfl
theorem fz_mp (ids : List Nat) : ∀ l : List FV, (l.map EC.fz).flatMap (fzC ids) = []
 | [] => rfl
 | a :: r => by simp only [List.map_cons, List.flatMap_cons, fz_mp ids r]; rfl
theorem ren_mp (g : Nat → Nat) : ∀ l : List FV, (l.map EC.fz).map (renC g) = l.map EC.fz
 | [] => rfl
 | a :: r => by simp only [List.map_cons, ren_mp g r]; rfl
def iF (n : Int) : FV := .lit (.int .i64 n)
def prmF (p : Prm) : List FV := hf p.tx ++ [iF p.n, iF p.am, iF p.k0, iF p.k1, iF p.dl, iF p.fe]
def rteF (r : Rte) : List FV := prmF r.f ++ (prmF r.s ++ [iF r.a, iF r.b, iF r.c, iF r.am, iF r.fe])
theorem prmF_fz (p : Prm) : (prmF p).map EC.fz = prmC p := by simp [prmF, prmC, iF, iC]
theorem rteF_fz (r : Rte) : (rteF r).map EC.fz = rteC r := by simp [rteF, rteC, prmF_fz, iF, iC]
@[simp] theorem conAll_prmC (H : Nat → Option EO) (ids : List Nat) (p : Prm) : conAll H ids (prmC p) = some (prmC p) := by rw [← prmF_fz]; exact conAll_mp H ids _
@[simp] theorem strAll_prmC (ids : List Nat) (p : Prm) : strAll ids (prmC p) = some (prmC p) := by rw [← prmF_fz]; exact strAll_mp ids _
@[simp] theorem frzAll_prmC (p : Prm) : frzAll (prmC p) = some (prmF p) := by rw [← prmF_fz]; exact frzAll_mp _
@[simp] theorem refs_prmC (p : Prm) : (prmC p).flatMap refsC = [] := by rw [← prmF_fz]; exact refs_mp _
@[simp] theorem fz_prmC (ids : List Nat) (p : Prm) : (prmC p).flatMap (fzC ids) = [] := by rw [← prmF_fz]; exact fz_mp ids _
@[simp] theorem ren_prmC (g : Nat → Nat) (p : Prm) : (prmC p).map (renC g) = prmC p := by rw [← prmF_fz]; exact ren_mp g _
@[simp] theorem conAll_rteC (H : Nat → Option EO) (ids : List Nat) (p : Rte) : conAll H ids (rteC p) = some (rteC p) := by rw [← rteF_fz]; exact conAll_mp H ids _
@[simp] theorem strAll_rteC (ids : List Nat) (p : Rte) : strAll ids (rteC p) = some (rteC p) := by rw [← rteF_fz]; exact strAll_mp ids _
@[simp] theorem frzAll_rteC (p : Rte) : frzAll (rteC p) = some (rteF p) := by rw [← rteF_fz]; exact frzAll_mp _
@[simp] theorem refs_rteC (p : Rte) : (rteC p).flatMap refsC = [] := by rw [← rteF_fz]; exact refs_mp _
@[simp] theorem fz_rteC (ids : List Nat) (p : Rte) : (rteC p).flatMap (fzC ids) = [] := by rw [← rteF_fz]; exact fz_mp ids _
@[simp] theorem ren_rteC (g : Nat → Nat) (p : Rte) : (rteC p).map (renC g) = rteC p := by rw [← rteF_fz]; exact ren_mp g _
theorem idx_of {l : List EC} {k : Nat} {c : EC} (e : l[k]? = some c) (h : k < l.length) : l[k]'h = c := by
 rw [List.getElem?_eq_getElem h] at e
 exact Option.some.inj e
def yl1ki : UL | _ => [xG 24 27 23 true (.bin .leq (.t 26) (xK 64)), xR 25 28 23 27, xM 26 2 28]
def yl1kj : UL | _ => xG 18 21 18 true (.bin .lss (.t 20) (xK 8)) :: xR 19 22 18 21 :: xM 20 23 22 :: yF 21 24 23 true 34 1 :: yL 22 25 23 true 24 :: xG 23 26 23 true (.len (.t 25)) :: hid yl1ki
def yl1kk : UL | _ => yL 12 15 13 true 14 :: xG 13 16 13 true (.bin .geq (.t 15) (xK 0)) :: xR 14 17 13 16 :: xM 15 18 17 :: yF 16 19 18 true 33 1 :: yL 17 20 18 true 19 :: hid yl1kj
def yl1kl : UL | _ => yF 6 9 7 true 32 8 :: yL 7 10 7 true 9 :: xG 8 11 7 true (.bin .lss (.t 10) (xK 64)) :: xR 9 12 7 11 :: xM 10 13 12 :: yF 11 14 13 true 33 1 :: hid yl1kk
def yl1km : UL | _ => xF 0 3 0 1 :: xF 1 4 32 3 :: xL 2 5 4 :: xc 3 6 .geq 5 0 :: xM 4 7 6 :: yF 5 8 7 true 0 1 :: hid yl1kl
def yb1kn : UB | _ => .seq (reg0 [xW 0 1 151 0, xQ 1 2 (.mov (.k (.bool false)))] 2) (.seq (reg0 (hid yl1km) 27) .ret)
attribute [simp] yl1ki yl1kj yl1kk yl1kl yl1km yb1kn
def c_InRight : EB × List QOp × Nat := ((hid yb1kn), [(.mov (.t 2))], 29)
theorem k_InRight : cfun Tryz.prog 97 = some c_InRight := by kernel_rfl
def yl1kp : UL | _ => [xD 0 3 35 1, xO 1 4 (.call 97 [.t 3]), xQ 2 5 (.un .not (.t 4)), xM 3 2 5]
def yb1kq : UB | _ => .seq (reg0 [xW 0 1 151 0, xQ 1 2 (.mov (.k (.bool false)))] 2) (.seq (reg0 (hid yl1kp) 4) .ret)
attribute [simp] yl1kp yb1kq
def c_TxC1 : EB × List QOp × Nat := ((hid yb1kq), [(.mov (.t 2))], 6)
theorem k_TxC1 : cfun Tryz.prog 96 = some c_TxC1 := by kernel_rfl
def yl1kv : UL | _ => [xM 0 11 1, xM 1 12 0, xM 2 13 5, xI 3 14 35 12 13, xD 4 15 35 14, xO 5 16 (.clo (.t 11) [.t 15])]
def yb1l0 : UB | _ => .seq (reg0 [xb 0 9 .lss 8 7] 1) (.seq (.cond (.t 9) .skip (.exit 0)) (.seq (.block 1 (.seq (reg0 [xM 0 10 8, xM 1 5 10] 2) (.seq (reg0 (hid yl1kv) 6) (.cond (.t 16) (.seq (reg0 [xM 0 17 5, xM 1 4 17] 2) .ret) .skip)))) (reg0 [xc 0 18 .add 8 1, xM 1 8 18] 2)))
def yb1l2 : UB | _ => .seq (.seq (reg0 [xM 0 6 0, xE 1 7 6, xC 2 8 0] 3) (.block 0 (.loop (hid yb1l0)))) (.seq (reg0 [xQ 0 4 (.mov (.k (.int .i64 (-1))))] 1) .ret)
def yb1l3 : UB | _ => .seq (reg0 [xC 0 4 0] 1) (hid yb1l2)
attribute [simp] yl1kv yb1l0 yb1l2 yb1l3
def c_IdxIn : EB × List QOp × Nat := ((hid yb1l3), [(.mov (.t 4))], 19)
theorem k_IdxIn : cfun Tryz.prog 142 = some c_IdxIn := by kernel_rfl
def yl1l5 : UL | _ => [xM 0 5 0, xM 1 6 1, xO 2 7 (.call 142 [.t 5, .t 6]), xc 3 8 .geq 7 0, xM 4 4 8]
def yb1l6 : UB | _ => .seq (reg0 [xQ 0 4 (.mov (.k (.bool false)))] 1) (.seq (reg0 (hid yl1l5) 5) .ret)
attribute [simp] yl1l5 yb1l6
def c_ConIn : EB × List QOp × Nat := ((hid yb1l6), [(.mov (.t 4))], 9)
theorem k_ConIn : cfun Tryz.prog 99 = some c_ConIn := by kernel_rfl
def yl1lb : UL | _ => [xG 18 31 19 false (.pick (.t 22) (.t 30) (.k (.bool false))), xP 19 32 19 31]
def yl1lc : UL | _ => yM 12 25 22 true 3 :: xG 13 26 22 true (.bin .sub (.t 25) (xK 1)) :: xG 14 27 22 true (.isl 1 (.t 24) (.t 26)) :: yL 15 28 22 true 27 :: yM 16 29 22 true 4 :: xG 17 30 22 true (.bin .geq (.t 28) (.t 29)) :: hid yl1lb
def yl1ld : UL | _ => xM 6 19 18 :: yM 7 20 19 false 3 :: xG 8 21 19 false (.bin .gtr (.t 20) (xK 0)) :: yM 9 22 19 false 21 :: yF 10 23 22 true 0 1 :: yL 11 24 22 true 23 :: hid yl1lc
def yl1le : UL | _ => xM 0 13 4 :: xc 1 14 .lss 13 0 :: xM 2 15 14 :: yM 3 16 15 false 4 :: xG 4 17 15 false (.bin .geq (.t 16) (xK 16)) :: xP 5 18 15 17 :: hid yl1ld
def yb1li : UB | _ => .seq (.block 1 (.seq (reg0 [xM 0 10 8, xI 1 11 1 6 8, xL 2 12 11, xM 3 3 10, xM 4 4 12] 5) (.seq (reg0 (hid yl1le) 20) (.cond (.t 32) (.seq (reg0 [xQ 0 2 (.mov (.k (.bool false)))] 1) .ret) .skip)))) (reg0 [xc 0 33 .add 8 1, xM 1 8 33] 2)
def yb1lj : UB | _ => .seq (reg0 [xb 0 9 .lss 8 7] 1) (.seq (.cond (.t 9) .skip (.exit 0)) (hid yb1li))
def yl1lk : UL | _ => [xM 24 2 57]
def yl1ll : UL | _ => xR 18 52 48 51 :: xM 19 53 52 :: yF 20 54 53 true 34 1 :: yL 21 55 53 true 54 :: xG 22 56 53 true (.bin .leq (.t 55) (xK 65536)) :: xR 23 57 53 56 :: hid yl1lk
def yl1lm : UL | _ => xG 12 46 43 true (.bin .leq (.t 45) (xK 1099511627776)) :: xR 13 47 43 46 :: xM 14 48 47 :: yF 15 49 48 true 34 1 :: yL 16 50 48 true 49 :: xG 17 51 48 true (.bin .geq (.t 50) (xK 0)) :: hid yl1ll
def yl1ln : UL | _ => yL 6 40 38 true 39 :: xG 7 41 38 true (.bin .geq (.t 40) (xK 0)) :: xR 8 42 38 41 :: xM 9 43 42 :: yF 10 44 43 true 33 1 :: yL 11 45 43 true 44 :: hid yl1lm
def yl1lo : UL | _ => xF 0 34 0 1 :: xL 1 35 34 :: xE 2 36 35 :: xc 3 37 .geq 36 1 :: xM 4 38 37 :: yF 5 39 38 true 33 1 :: hid yl1ln
def yb1lp : UB | _ => .seq (.seq (reg0 [xF 0 5 0 1, xL 1 6 5, xE 2 7 6, xC 3 8 0] 4) (.block 0 (.loop (hid yb1lj)))) (.seq (reg0 (hid yl1lo) 25) .ret)
def yb1lq : UB | _ => .seq (reg0 [xW 0 1 169 0, xQ 1 2 (.mov (.k (.bool false)))] 2) (hid yb1lp)
attribute [simp] yl1lb yl1lc yl1ld yl1le yb1li yb1lj yl1lk yl1ll yl1lm yl1ln yl1lo yb1lp yb1lq
def c_Bmay : EB × List QOp × Nat := ((hid yb1lq), [(.mov (.t 2))], 58)
theorem k_Bmay : cfun Tryz.prog 168 = some c_Bmay := by kernel_rfl
def yl1ls : UL | _ => [xD 0 3 35 1, xO 1 4 (.call 168 [.t 3]), xQ 2 5 (.un .not (.t 4)), xM 3 2 5]
def yb1lt : UB | _ => .seq (reg0 [xW 0 1 169 0, xQ 1 2 (.mov (.k (.bool false)))] 2) (.seq (reg0 (hid yl1ls) 4) .ret)
attribute [simp] yl1ls yb1lt
def c_CndC1 : EB × List QOp × Nat := ((hid yb1lt), [(.mov (.t 2))], 6)
theorem k_CndC1 : cfun Tryz.prog 167 = some c_CndC1 := by kernel_rfl
def yl1ly : UL | _ => [xM 0 11 1, xM 1 12 0, xM 2 13 5, xI 3 14 35 12 13, xD 4 15 35 14, xO 5 16 (.clo (.t 11) [.t 15])]
def yb1m3 : UB | _ => .seq (reg0 [xb 0 9 .lss 8 7] 1) (.seq (.cond (.t 9) .skip (.exit 0)) (.seq (.block 1 (.seq (reg0 [xM 0 10 8, xM 1 5 10] 2) (.seq (reg0 (hid yl1ly) 6) (.cond (.t 16) (.seq (reg0 [xM 0 17 5, xM 1 4 17] 2) .ret) .skip)))) (reg0 [xc 0 18 .add 8 1, xM 1 8 18] 2)))
def yb1m5 : UB | _ => .seq (.seq (reg0 [xM 0 6 0, xE 1 7 6, xC 2 8 0] 3) (.block 0 (.loop (hid yb1m3)))) (.seq (reg0 [xQ 0 4 (.mov (.k (.int .i64 (-1))))] 1) .ret)
def yb1m6 : UB | _ => .seq (reg0 [xC 0 4 0] 1) (hid yb1m5)
attribute [simp] yl1ly yb1m3 yb1m5 yb1m6
def c_IdxBr : EB × List QOp × Nat := ((hid yb1m6), [(.mov (.t 4))], 19)
theorem k_IdxBr : cfun Tryz.prog 181 = some c_IdxBr := by kernel_rfl
def yl1m8 : UL | _ => [xM 0 5 0, xM 1 6 1, xO 2 7 (.call 181 [.t 5, .t 6]), xc 3 8 .geq 7 0, xM 4 4 8]
def yb1m9 : UB | _ => .seq (reg0 [xQ 0 4 (.mov (.k (.bool false)))] 1) (.seq (reg0 (hid yl1m8) 5) .ret)
attribute [simp] yl1m8 yb1m9
def c_ConBr : EB × List QOp × Nat := ((hid yb1m9), [(.mov (.t 4))], 9)
theorem k_ConBr : cfun Tryz.prog 169 = some c_ConBr := by kernel_rfl
def yl1mc : UL | _ => [yL 12 16 14 false 15, yM 13 17 14 false 3, ⟨14, (some 18), (some (14, false)), (.call 169 [.t 16, .t 17]), []⟩, xP 15 19 14 18]
def yl1md : UL | _ => yL 6 10 8 false 9 :: xG 7 11 8 false (.len (.t 10)) :: xG 8 12 8 false (.bin .gtr (.t 11) (xK 8)) :: xP 9 13 8 12 :: xM 10 14 13 :: yF 11 15 14 false 0 1 :: hid yl1mc
def yl1me : UL | _ => xF 0 4 0 1 :: xL 1 5 4 :: xE 2 6 5 :: xc 3 7 .lss 6 1 :: xM 4 8 7 :: yF 5 9 8 false 0 1 :: hid yl1md
def yb1mj : UB | _ => .seq (reg0 [xW 0 1 97 0, xQ 1 2 (.mov (.k .nilIface))] 2) (.seq (reg0 [xQ 0 3 (.mov (.k (.func (.func 167) #[] #[])))] 1) (.seq (.seq (reg0 (hid yl1me) 16) (.cond (.t 19) (.seq (reg0 [xQ 0 20 (.mki 121 (xK 1)), xM 1 2 20] 2) .ret) .skip)) (.seq (reg0 [xQ 0 2 (.mov (.k .nilIface))] 1) .ret)))
attribute [simp] yl1mc yl1md yl1me yb1mj
def c_CCheck : EB × List QOp × Nat := ((hid yb1mj), [(.mov (.t 2))], 21)
theorem k_CCheck : cfun Tryz.prog 143 = some c_CCheck := by kernel_rfl
def yl1mn : UL | _ => [xF 0 9 0 1, xL 1 10 9, xc 2 11 .gtr 10 1125899906842624, xM 3 8 11]
def yl1mr : UL | _ => [xF 0 13 1 1, xD 1 14 1 13, xO 2 15 (.call 143 [.t 14]), xM 3 2 15]
def yb1ms : UB | _ => .seq (.block 0 (.seq (reg0 [xF 0 4 0 1, xL 1 5 4, xc 2 6 .lss 5 10, xM 3 3 6] 4) (.cond (.t 3) (.seq (reg0 [xQ 0 7 (.mki 121 (xK 27)), xM 1 2 7] 2) .ret) (.seq (reg0 (hid yl1mn) 4) (.cond (.t 8) (.seq (reg0 [xQ 0 12 (.mki 121 (xK 5)), xM 1 2 12] 2) .ret) .skip))))) (.seq (reg0 (hid yl1mr) 4) .ret)
def yb1mt : UB | _ => .seq (reg0 [xW 0 1 100 0, xQ 1 2 (.mov (.k .nilIface))] 2) (hid yb1ms)
attribute [simp] yl1mn yl1mr yb1ms yb1mt
def c_OutChk : EB × List QOp × Nat := ((hid yb1mt), [(.mov (.t 2))], 16)
theorem k_OutChk : cfun Tryz.prog 100 = some c_OutChk := by kernel_rfl
def yl1mv : UL | _ => [xM 6 2 8]
def yl1mw : UL | _ => xM 0 3 0 :: xc 1 4 .geq 3 1 :: xM 2 5 4 :: yM 3 6 5 true 0 :: xG 4 7 5 true (.bin .leq (.t 6) (xK 64)) :: xR 5 8 5 7 :: hid yl1mv
def yb1mx : UB | _ => .seq (reg0 [xQ 0 2 (.mov (.k (.bool false)))] 1) (.seq (reg0 (hid yl1mw) 7) .ret)
attribute [simp] yl1mv yl1mw yb1mx
def c_TxSome : EB × List QOp × Nat := ((hid yb1mx), [(.mov (.t 2))], 9)
theorem k_TxSome : cfun Tryz.prog 98 = some c_TxSome := by kernel_rfl
structure Bra where
 keys : List Int
 lock : List UInt8
 af : Int
 ol : Int
structure Inp where
 tx : List UInt8
 n : Int
 br : Int
 sec : List UInt8
structure Outp where
 am : Int
 cs : List Bra
structure Txn where
 lk : Int
 ins : List Inp
 outs : List Outp
def braF (b : Bra) : List FV := .sl 1 (intv b.keys) :: (hf b.lock ++ [iF b.af, iF b.ol])
def inpF (x : Inp) : List FV := hf x.tx ++ [iF x.n, iF x.br, .sl 1 (bsv x.sec)]
def brav (l : List Bra) : List (List FV) := l.map braF
def outF (o : Outp) : List FV := [iF o.am, .sl 35 (brav o.cs)]
def inpv (l : List Inp) : List (List FV) := l.map inpF
def outv (l : List Outp) : List (List FV) := l.map outF
def braC (b : Bra) : List EC := .fz (.sl 1 (intv b.keys)) :: (hc b.lock ++ [iC b.af, iC b.ol])
def inpC (x : Inp) : List EC := hc x.tx ++ [iC x.n, iC x.br, .fz (.sl 1 (bsv x.sec))]
def outC (o : Outp) : List EC := [iC o.am, .fz (.sl 35 (brav o.cs))]
def txC (t : Txn) : List EC := [iC t.lk, .fz (.sl 35 (inpv t.ins)), .fz (.sl 2 (outv t.outs))]
def TXv (t : Txn) : EV := .v (.agg (txC t))
def CNv (l : List Bra) : EV := .v (.agg [.fz (.sl 35 (brav l))])
def Bra.ok (b : Bra) : Prop := (∀ k ∈ b.keys, i64 k) ∧ b.lock.length = 32 ∧ i64 b.af ∧ i64 b.ol ∧ b.keys.length ≤ 100000000
def Inp.ok (x : Inp) : Prop := x.tx.length = 32 ∧ i64 x.n ∧ i64 x.br ∧ x.sec.length ≤ 100000000
def Outp.ok (o : Outp) : Prop := i64 o.am ∧ (∀ b ∈ o.cs, b.ok) ∧ o.cs.length ≤ 100000000
def Txn.ok (t : Txn) : Prop := i64 t.lk ∧ (∀ x ∈ t.ins, x.ok) ∧ (∀ o ∈ t.outs, o.ok) ∧ t.ins.length ≤ 100000000 ∧ t.outs.length ≤ 100000000
theorem braF_fz (b : Bra) : (braF b).map EC.fz = braC b := by simp [braF, braC, iF, iC]
theorem inpF_fz (x : Inp) : (inpF x).map EC.fz = inpC x := by simp [inpF, inpC, iF, iC]
@[simp] theorem brav_len (l : List Bra) : (brav l).length = l.length := by simp [brav]
@[simp] theorem inpv_len (l : List Inp) : (inpv l).length = l.length := by simp [inpv]
@[simp] theorem outv_len (l : List Outp) : (outv l).length = l.length := by simp [outv]
theorem brav_get {l : List Bra} {i : Nat} {p : Bra} (h : l[i]? = some p) : (brav l)[i]? = some (braF p) := by simp [brav, h]
theorem inpv_get {l : List Inp} {i : Nat} {p : Inp} (h : l[i]? = some p) : (inpv l)[i]? = some (inpF p) := by simp [inpv, h]
theorem outv_get {l : List Outp} {i : Nat} {p : Outp} (h : l[i]? = some p) : (outv l)[i]? = some (outF p) := by simp [outv, h]
@[simp] theorem conAll_braC (H : Nat → Option EO) (ids : List Nat) (p : Bra) : conAll H ids (braC p) = some (braC p) := by rw [← braF_fz]; exact conAll_mp H ids _
@[simp] theorem strAll_braC (ids : List Nat) (p : Bra) : strAll ids (braC p) = some (braC p) := by rw [← braF_fz]; exact strAll_mp ids _
@[simp] theorem frzAll_braC (p : Bra) : frzAll (braC p) = some (braF p) := by rw [← braF_fz]; exact frzAll_mp _
@[simp] theorem refs_braC (p : Bra) : (braC p).flatMap refsC = [] := by rw [← braF_fz]; exact refs_mp _
@[simp] theorem fz_braC (ids : List Nat) (p : Bra) : (braC p).flatMap (fzC ids) = [] := by rw [← braF_fz]; exact fz_mp ids _
@[simp] theorem ren_braC (g : Nat → Nat) (p : Bra) : (braC p).map (renC g) = braC p := by rw [← braF_fz]; exact ren_mp g _
@[simp] theorem conAll_inpC (H : Nat → Option EO) (ids : List Nat) (p : Inp) : conAll H ids (inpC p) = some (inpC p) := by rw [← inpF_fz]; exact conAll_mp H ids _
@[simp] theorem strAll_inpC (ids : List Nat) (p : Inp) : strAll ids (inpC p) = some (inpC p) := by rw [← inpF_fz]; exact strAll_mp ids _
@[simp] theorem frzAll_inpC (p : Inp) : frzAll (inpC p) = some (inpF p) := by rw [← inpF_fz]; exact frzAll_mp _
@[simp] theorem refs_inpC (p : Inp) : (inpC p).flatMap refsC = [] := by rw [← inpF_fz]; exact refs_mp _
@[simp] theorem fz_inpC (ids : List Nat) (p : Inp) : (inpC p).flatMap (fzC ids) = [] := by rw [← inpF_fz]; exact fz_mp ids _
@[simp] theorem ren_inpC (g : Nat → Nat) (p : Inp) : (inpC p).map (renC g) = inpC p := by rw [← inpF_fz]; exact ren_mp g _
section
variable {b : Bra} (h : b.lock.length = 32)
include h
theorem bc_len : (braC b).length = 35 := by simp [braC, hc_len, h]
theorem bf_len : (braF b).length = 35 := by simp [braF, h]
theorem bc_take : (braC b).take 35 = braC b := List.tkL (by rw [bc_len h]; omega)
theorem bc_lock : ((braC b).drop 1).take 32 = hc b.lock := by
 have e : (hc b.lock).length = 32 := by rw [hc_len, h]
 unfold braC
 rw [List.drop_succ_cons, List.drop_zero, ← e, List.take_left]
theorem bc_33 : (braC b)[33]? = some (iC b.af) := by
 have e : (hc b.lock).length = 32 := by rw [hc_len, h]
 unfold braC
 rw [List.getElem?_cons_succ, List.getElem?_append_right (by omega), e]; rfl
theorem bc_34 : (braC b)[34]? = some (iC b.ol) := by
 have e : (hc b.lock).length = 32 := by rw [hc_len, h]
 unfold braC
 rw [List.getElem?_cons_succ, List.getElem?_append_right (by omega), e]; rfl
end
theorem bc_0 (b : Bra) : (braC b)[0]? = some (.fz (.sl 1 (intv b.keys))) := rfl
section
variable {x : Inp} (h : x.tx.length = 32)
include h
theorem ic_len : (inpC x).length = 35 := by simp [inpC, hc_len, h]
theorem if_len : (inpF x).length = 35 := by simp [inpF, h]
theorem ic_take : (inpC x).take 35 = inpC x := List.tkL (by rw [ic_len h]; omega)
theorem ic_hash : (inpC x).take 32 = hc x.tx := by
 have e : (hc x.tx).length = 32 := by rw [hc_len, h]
 unfold inpC
 rw [← e, List.take_left]
theorem ic_pt : (inpC x).take 33 = hc x.tx ++ [iC x.n] := by
 have e : (hc x.tx).length = 32 := by rw [hc_len, h]
 unfold inpC
 rw [List.take_append, List.tkL (by omega), e]; rfl
theorem ic_at (i : Nat) : (inpC x)[32 + i]? = [iC x.n, iC x.br, .fz (.sl 1 (bsv x.sec))][i]? := by
 have e : (hc x.tx).length = 32 := by rw [hc_len, h]
 unfold inpC
 rw [List.getElem?_append_right (by omega), e, Nat.add_sub_cancel_left]
theorem ic_32 : (inpC x)[32]? = some (iC x.n) := ic_at h 0
theorem ic_33 : (inpC x)[33]? = some (iC x.br) := ic_at h 1
theorem ic_34 : (inpC x)[34]? = some (.fz (.sl 1 (bsv x.sec))) := ic_at h 2
end
def inM (x : Inp) : Bool := decide (0 ≤ x.n ∧ x.n < 64 ∧ 0 ≤ x.br ∧ x.br < 8 ∧ x.sec.length ≤ 64)
def brM (b : Bra) : Bool := keysS (-1) b.keys && decide (1 ≤ b.keys.length ∧ 0 ≤ b.af ∧ b.af ≤ 1099511627776 ∧ 0 ≤ b.ol ∧ b.ol ≤ 65536)
def cnE (l : List Bra) : Nat := if (1 ≤ l.length ∧ l.length ≤ 8) ∧ l.all brM = true then 0 else 1
def ouE (o : Outp) : Nat := if o.am < 10 then 27 else if 1125899906842624 < o.am then 5 else cnE o.cs
theorem InRight_ok (x : Inp) (h : x.ok) : ECalls Tryz.prog 97 [.v (.agg (inpC x))] [] fun y H' => H' = [] ∧ y = .lit (.bool (inM x)) := by
 obtain ⟨h1, _, _, h4⟩ := h
 have l0 := ic_len h1
 have e32 := idx_of (ic_32 h1) (by omega)
 have e33 := idx_of (ic_33 h1) (by omega)
 have e34 := idx_of (ic_34 h1) (by omega)
 refine ecalls k_InRight ?_
 simp [c_InRight, I, l0, e32, e33, e34, iC]
 by_cases c1 : 0 ≤ x.n
 rotate_left
 ·rw [show inM x = false from decide_eq_false (by omega)]
  simp [c1]
  exact fin0
 by_cases c2 : x.n < 64
 rotate_left
 ·rw [show inM x = false from decide_eq_false (by omega)]
  simp [c1, c2, l0, e32, e33, e34, iC]
  exact fin0
 by_cases c3 : 0 ≤ x.br
 rotate_left
 ·rw [show inM x = false from decide_eq_false (by omega)]
  simp [c1, c2, c3, l0, e32, e33, e34, iC]
  exact fin0
 by_cases c4 : x.br < 8
 rotate_left
 ·rw [show inM x = false from decide_eq_false (by omega)]
  simp [c1, c2, c3, c4, l0, e32, e33, e34, iC]
  exact fin0
 have hb : (bsv x.sec).length = x.sec.length := by simp
 have hm : inM x = decide ((x.sec.length : Int) ≤ 64) := by
  unfold inM
  by_cases q : x.sec.length ≤ 64
  ·rw [decide_eq_true ⟨c1, c2, c3, c4, q⟩, decide_eq_true (by omega)]
  ·rw [decide_eq_false (by omega), decide_eq_false (by omega)]
 rw [hm]
 simp [c1, c2, c3, c4, l0, e32, e33, e34, iC]
 exact fin [] (by decide) rfl rfl rfl ⟨rfl, by simp⟩
theorem TxC1_ok (x : Inp) (h : x.ok) : ECalls Tryz.prog 96 [.v (.agg (inpC x))] [] fun y H' => H' = [] ∧ y = .lit (.bool (!inM x)) := by
 have l0 := ic_len h.1
 have t0 := ic_take h.1
 refine ecalls k_TxC1 ?_
 simp [c_TxC1, I, l0, t0]
 refine call0 (InRight_ok x h) (by simp) ?_
 rintro y H' ⟨rfl, rfl⟩
 refine ⟨.inl (by simp), le_ok rfl, ?_⟩
 simp
 exact fin0
theorem TxC1_body : bodyOK Tryz.prog 96 = true := by kernel_rfl
theorem IdxIn_ok (l : List Inp) (hl : ∀ h ∈ l, h.ok) (hn : l.length ≤ 100000000) : ECalls Tryz.prog 142 [.v (.c (.fz (.sl 35 (inpv l)))), .v (.c (.clo 96 []))] [] fun y H' => H' = [] ∧ ((l.all inM = true ∧ y = I .i64 (-1)) ∨ (l.all inM = false ∧ ∃ i : Nat, y = I .i64 i)) := by
 obtain ⟨B, hB⟩ : ∃ B, l.all inM = B := ⟨_, rfl⟩
 rw [hB]
 refine ecalls k_IdxIn ?_
 simp [c_IdxIn, I]
 refine eloop (α := Nat) (fun i => i ≤ l.length ∧ ∀ (k : Nat) (x : Inp), k < i → l[k]? = some x → inM x = true) (fun i => l.length - i)
  (fun i => [.v (.c (.fz (.sl 35 (inpv l)))), .v (.c (.clo 96 [])), .any, .any, .any, .any, .any, I .i64 l.length, I .i64 i, .any, .any, .any, .any, .any, .any, .any, .any, .any, .any]) (fun _ => []) 0 []
  ⟨Nat.zero_le _, fun k x h => by omega⟩ (by simp [I]) (by simp) (by simp) (by simp) (by simp) ?_
 rintro i ⟨hi, hlo⟩
 simp [I]
 refine alt (fun hlt => ?_) (fun hlt => ?_)
 ·have hln : i < l.length := by omega
  obtain ⟨p, hc⟩ : ∃ p, l[i]? = some p := ⟨l[i], by simp [hln]⟩
  have hge : (inpv l)[i]'(by simp [hln]) = inpF p := gE (inpv_get hc)
  have w4 := wS (i := i) (by omega)
  have hpo := hl p (List.mgE hc)
  have l0 := ic_len hpo.1
  have l1 := if_len hpo.1
  have t0 := ic_take hpo.1
  simp [hln, hge, inpF_fz, l0, l1, t0]
  refine ⟨TxC1_body, ?_⟩
  refine call0 (TxC1_ok p hpo) (by simp) ?_
  rintro y H' ⟨rfl, rfl⟩
  refine ⟨.inl (by simp), le_ok rfl, ?_⟩
  cases hP : inM p
  ·simp
   exact fin [] (by decide) rfl rfl rfl ⟨rfl, .inr ⟨by rw [← hB, List.all_eq_false]; exact ⟨p, List.mgE hc, by simp [hP]⟩, i, rfl⟩⟩
  ·simp [w4, -Int.natCast_add]
   refine round (i + 1) [] ⟨by omega, ?_⟩ (by omega) (by simp [I]) (by simp) (by simp) (by simp) (by simp)
   intro k q hk hq
   rcases Nat.lt_or_ge k i with h1 | h1
   ·exact hlo k q h1 hq
   ·obtain rfl : k = i := by omega
    rw [hc] at hq
    obtain rfl := Option.some.inj hq
    exact hP
 ·simp
  refine fin [] (by decide) rfl rfl rfl ⟨rfl, .inl ⟨?_, rfl⟩⟩
  rw [← hB, List.all_eq_true]
  intro x hx
  obtain ⟨k, hk⟩ := List.getElem?_of_mem hx
  exact hlo k x (by have := lt_len hk; omega) hk
theorem ConIn_ok (l : List Inp) (hl : ∀ h ∈ l, h.ok) (hn : l.length ≤ 100000000) : ECalls Tryz.prog 99 [.v (.c (.fz (.sl 35 (inpv l)))), .v (.c (.clo 96 []))] [] fun y H' => H' = [] ∧ y = .lit (.bool (!l.all inM)) := by
 refine ecalls k_ConIn ?_
 simp [c_ConIn]
 refine call0 (IdxIn_ok l hl hn) (by simp) ?_
 rintro y H' ⟨rfl, h⟩
 rcases h with ⟨h, rfl⟩ | ⟨h, i, rfl⟩
 ·refine ⟨.inl (by simp [I]), le_ok rfl, ?_⟩
  rw [h]
  simp [I]
  exact fin0
 ·refine ⟨.inl (by simp [I]), le_ok rfl, ?_⟩
  have n0 : (0 : Int) ≤ (i : Int) := by omega
  rw [h]
  simp [I, n0]
  exact fin0
theorem Bmay_ok (b : Bra) (h : b.ok) : ECalls Tryz.prog 168 [.v (.agg (braC b))] [] fun y H' => H' = [] ∧ y = .lit (.bool (brM b)) := by
 obtain ⟨hk, h1, ha, ho, h4⟩ := h
 have l0 := bc_len h1
 have e0 := idx_of (bc_0 b) (by omega)
 have e33 := idx_of (bc_33 h1) (by omega)
 have e34 := idx_of (bc_34 h1) (by omega)
 refine ecalls k_Bmay ?_
 simp [c_Bmay, I, l0, e0, iC]
 refine eloop (α := Nat × Int) (fun a => a.1 ≤ b.keys.length ∧ keysS (-1) b.keys = keysS a.2 (b.keys.drop a.1) ∧ (a.1 = 0 → a.2 = -1) ∧ (0 < a.1 → b.keys[a.1 - 1]? = some a.2)) (fun a => b.keys.length - a.1)
  (fun a => [xA, Ptr 0, xA, xA, xA, xA, IL b.keys, I .i64 b.keys.length, I .i64 a.1, xA, xA, xA, xA, xA, xA, xA, xA, xA, xA, xA, xA, xA, xA, xA, xA, xA, xA, xA, xA, xA, xA, xA, xA, xA, xA, xA, xA, xA, xA, xA, xA, xA, xA, xA, xA, xA, xA, xA, xA, xA, xA, xA, xA, xA, xA, xA, xA, .any]) (fun _ => [some (.box 169 (braC b))]) (0, -1) [0]
  ⟨by simp, by simp, by simp, by simp⟩ (by simp [Ptr, I, IL]) (by simp) (by simp) (by simp) (by simp) ?_
 rintro ⟨i, last⟩ ⟨hi1, hi2, hi3, hi4⟩
 dsimp only at hi1 hi2 hi3 hi4
 simp [Ptr, I, IL]
 refine alt (fun hlt => ?_) (fun hlt => ?_)
 ·have hln : i < b.keys.length := by omega
  obtain ⟨k, hc⟩ : ∃ k, b.keys[i]? = some k := ⟨b.keys[i], by simp [hln]⟩
  have ga : ∀ h2, (intv b.keys)[i]'h2 = [.lit (.int .i64 k)] := fun h2 => by rw [intv_at hln, hc]; rfl
  rw [drop_cons hc] at hi2
  have w1 := wS (i := i) (by omega)
  have hbad : ¬ (last < k ∧ k < 16) → brM b = false := fun q => by simp only [brM, hi2, keysS, decide_eq_false q, Bool.false_and]
  have hgood : last < k → k < 16 → keysS (-1) b.keys = keysS k (b.keys.drop (i + 1)) := fun q1 q2 => by rw [hi2, keysS, decide_eq_true ⟨q1, q2⟩, Bool.true_and]
  have hm : -1 ≤ last ∨ brM b = false ∨ True := by right; right; trivial
  simp [hln, ga]
  by_cases c1 : k < 0
  ·have hv : brM b = false := by
    by_cases q : last < k
    ·rcases Nat.eq_zero_or_pos i with e | e
     ·have := hi3 e; omega
     ·exact by
       have hneg : last < 0 := by omega
       have key : ∀ (l : List Int) (o : Int) (j : Nat) (z : Int), keysS o l = true → l[j]? = some z → o < z := by
        intro l
        induction l with
        | nil => intro o j z _ h; simp at h
        | cons a r ih =>
         intro o j z hh hz
         simp only [keysS, Bool.and_eq_true, decide_eq_true_eq] at hh
         cases j with
         | zero => simp at hz; omega
         | succ j => have := ih a j z hh.2 (by simpa using hz); omega
       by_cases hks : keysS (-1) b.keys = true
       ·have := key b.keys (-1) (i - 1) last hks (hi4 e); omega
       ·simp only [brM, Bool.not_eq_true] at hks ⊢
        rw [hks]; rfl
    ·exact hbad (by omega)
   have c1' : ¬ 0 ≤ k := by omega
   rw [hv]
   simp [c1, c1']
   exact fin0
  have c1' : 0 ≤ k := by omega
  by_cases c2 : 16 ≤ k
  ·have c2' : ¬ k < 16 := by omega
   rw [hbad (by omega)]
   simp [c1, c1', c2, c2']
   exact fin0
  have c2' : k < 16 := by omega
  rcases Nat.eq_zero_or_pos i with e | e
  ·subst e
   have hl := hi3 rfl
   simp [c1, c1', c2, c2']
   have w1' : IntKind.i64.wrap 1 = 1 := by decide +kernel
   try simp [w1']
   exact round (1, k) [0] ⟨by dsimp only; omega, hgood (by omega) (by omega), by simp, by simpa using hc⟩ (by dsimp only; omega) (by simp [Ptr, I, IL]) (by simp) (by simp) (by simp) (by simp)
  ·have e' : (0 : Int) < (i : Int) := by omega
   have hq := hi4 e
   have hti : i - 1 < b.keys.length := by omega
   have gb : ∀ h2, (intv b.keys)[i - 1]'h2 = [.lit (.int .i64 last)] := fun h2 => by rw [intv_at hti, hq]; rfl
   have w3 : IntKind.i64.wrap ((i : Int) - 1) = ((i - 1 : Nat) : Int) := by rw [wrap_i64 (by omega) (by omega)]; omega
   have n1 : ¬ (((i - 1 : Nat) : Int) < 0) := by omega
   obtain ⟨p, hp⟩ : ∃ p, i - 1 = p := ⟨_, rfl⟩
   rw [hp] at hti gb w3 n1
   simp [c1, c1', c2, c2', e, e', w3, gb, hti, n1, hln, l0, e0]
   by_cases c3 : k ≤ last
   ·have c3' : ¬ last < k := by omega
    rw [hbad (by omega)]
    simp [c3, c3']
    exact fin0
   ·have c3' : last < k := by omega
    simp [c3, c3', w1, -Int.natCast_add]
    exact round (i + 1, k) [0] ⟨by dsimp only; omega, hgood (by omega) (by omega), by simp, by simpa using hc⟩ (by dsimp only; omega) (by simp [Ptr, I, IL]) (by simp) (by simp) (by simp) (by simp)
 ·have hd : b.keys.drop i = [] := by rw [List.drop_eq_nil_iff]; omega
  have hks : keysS (-1) b.keys = true := by rw [hi2, hd]; rfl
  have hm : brM b = decide (1 ≤ b.keys.length ∧ 0 ≤ b.af ∧ b.af ≤ 1099511627776 ∧ 0 ≤ b.ol ∧ b.ol ≤ 65536) := by simp only [brM, hks, Bool.true_and]
  rw [hm]
  by_cases c1 : 1 ≤ b.keys.length
  rotate_left
  ·have c1' : ¬ (1 : Int) ≤ (b.keys.length : Int) := by omega
   rw [decide_eq_false (by omega)]
   simp [Ptr, I, l0, e0, e33, e34, iC, c1, c1']
   exact fin0
  have c1' : (1 : Int) ≤ (b.keys.length : Int) := by omega
  by_cases c2 : 0 ≤ b.af
  rotate_left
  ·have d2 : b.af < 0 := by omega
   rw [decide_eq_false (by omega)]
   simp [Ptr, I, l0, e0, e33, e34, iC, c1, c1', c2, d2]
   exact fin0
  have d2 : ¬ b.af < 0 := by omega
  by_cases c3 : b.af ≤ 1099511627776
  rotate_left
  ·have d3 : 1099511627776 < b.af := by omega
   rw [decide_eq_false (by omega)]
   simp [Ptr, I, l0, e0, e33, e34, iC, c1, c1', c2, d2, c3, d3]
   exact fin0
  have d3 : ¬ 1099511627776 < b.af := by omega
  by_cases c4 : 0 ≤ b.ol
  rotate_left
  ·have d4 : b.ol < 0 := by omega
   rw [decide_eq_false (by omega)]
   simp [Ptr, I, l0, e0, e33, e34, iC, c1, c1', c2, d2, c3, d3, c4, d4]
   exact fin0
  have d4 : ¬ b.ol < 0 := by omega
  by_cases c5 : b.ol ≤ 65536
  rotate_left
  ·have d5 : 65536 < b.ol := by omega
   rw [decide_eq_false (by omega)]
   simp [Ptr, I, l0, e0, e33, e34, iC, c1, c1', c2, d2, c3, d3, c4, d4, c5, d5]
   exact fin0
  have d5 : ¬ 65536 < b.ol := by omega
  rw [decide_eq_true (by omega)]
  simp [Ptr, I, l0, e0, e33, e34, iC, c1, c1', c2, d2, c3, d3, c4, d4, c5, d5]
  exact fin0
theorem CndC1_ok (x : Bra) (h : x.ok) : ECalls Tryz.prog 167 [.v (.agg (braC x))] [] fun y H' => H' = [] ∧ y = .lit (.bool (!brM x)) := by
 have l0 := bc_len h.2.1
 have t0 := bc_take h.2.1
 refine ecalls k_CndC1 ?_
 simp [c_CndC1, I, l0, t0]
 refine call0 (Bmay_ok x h) (by simp) ?_
 rintro y H' ⟨rfl, rfl⟩
 refine ⟨.inl (by simp), le_ok rfl, ?_⟩
 simp
 exact fin0
theorem CndC1_body : bodyOK Tryz.prog 167 = true := by kernel_rfl
theorem IdxBr_ok (l : List Bra) (hl : ∀ h ∈ l, h.ok) (hn : l.length ≤ 100000000) : ECalls Tryz.prog 181 [.v (.c (.fz (.sl 35 (brav l)))), .v (.c (.clo 167 []))] [] fun y H' => H' = [] ∧ ((l.all brM = true ∧ y = I .i64 (-1)) ∨ (l.all brM = false ∧ ∃ i : Nat, y = I .i64 i)) := by
 obtain ⟨B, hB⟩ : ∃ B, l.all brM = B := ⟨_, rfl⟩
 rw [hB]
 refine ecalls k_IdxBr ?_
 simp [c_IdxBr, I]
 refine eloop (α := Nat) (fun i => i ≤ l.length ∧ ∀ (k : Nat) (x : Bra), k < i → l[k]? = some x → brM x = true) (fun i => l.length - i)
  (fun i => [.v (.c (.fz (.sl 35 (brav l)))), .v (.c (.clo 167 [])), .any, .any, .any, .any, .any, I .i64 l.length, I .i64 i, .any, .any, .any, .any, .any, .any, .any, .any, .any, .any]) (fun _ => []) 0 []
  ⟨Nat.zero_le _, fun k x h => by omega⟩ (by simp [I]) (by simp) (by simp) (by simp) (by simp) ?_
 rintro i ⟨hi, hlo⟩
 simp [I]
 refine alt (fun hlt => ?_) (fun hlt => ?_)
 ·have hln : i < l.length := by omega
  obtain ⟨p, hc⟩ : ∃ p, l[i]? = some p := ⟨l[i], by simp [hln]⟩
  have hge : (brav l)[i]'(by simp [hln]) = braF p := gE (brav_get hc)
  have w4 := wS (i := i) (by omega)
  have hpo := hl p (List.mgE hc)
  have l0 := bc_len hpo.2.1
  have l1 := bf_len hpo.2.1
  have t0 := bc_take hpo.2.1
  simp [hln, hge, braF_fz, l0, l1, t0]
  refine ⟨CndC1_body, ?_⟩
  refine call0 (CndC1_ok p hpo) (by simp) ?_
  rintro y H' ⟨rfl, rfl⟩
  refine ⟨.inl (by simp), le_ok rfl, ?_⟩
  cases hP : brM p
  ·simp
   exact fin [] (by decide) rfl rfl rfl ⟨rfl, .inr ⟨by rw [← hB, List.all_eq_false]; exact ⟨p, List.mgE hc, by simp [hP]⟩, i, rfl⟩⟩
  ·simp [w4, -Int.natCast_add]
   refine round (i + 1) [] ⟨by omega, ?_⟩ (by omega) (by simp [I]) (by simp) (by simp) (by simp) (by simp)
   intro k q hk hq
   rcases Nat.lt_or_ge k i with h1 | h1
   ·exact hlo k q h1 hq
   ·obtain rfl : k = i := by omega
    rw [hc] at hq
    obtain rfl := Option.some.inj hq
    exact hP
 ·simp
  refine fin [] (by decide) rfl rfl rfl ⟨rfl, .inl ⟨?_, rfl⟩⟩
  rw [← hB, List.all_eq_true]
  intro x hx
  obtain ⟨k, hk⟩ := List.getElem?_of_mem hx
  exact hlo k x (by have := lt_len hk; omega) hk
theorem ConBr_ok (l : List Bra) (hl : ∀ h ∈ l, h.ok) (hn : l.length ≤ 100000000) : ECalls Tryz.prog 169 [.v (.c (.fz (.sl 35 (brav l)))), .v (.c (.clo 167 []))] [] fun y H' => H' = [] ∧ y = .lit (.bool (!l.all brM)) := by
 refine ecalls k_ConBr ?_
 simp [c_ConBr]
 refine call0 (IdxBr_ok l hl hn) (by simp) ?_
 rintro y H' ⟨rfl, h⟩
 rcases h with ⟨h, rfl⟩ | ⟨h, i, rfl⟩
 ·refine ⟨.inl (by simp [I]), le_ok rfl, ?_⟩
  rw [h]
  simp [I]
  exact fin0
 ·refine ⟨.inl (by simp [I]), le_ok rfl, ?_⟩
  have n0 : (0 : Int) ≤ (i : Int) := by omega
  rw [h]
  simp [I, n0]
  exact fin0
theorem CCheck_ok (l : List Bra) (hl : ∀ h ∈ l, h.ok) (hn : l.length ≤ 100000000) : ECalls Tryz.prog 143 [CNv l] [] fun y H' => H' = [] ∧ y = .lit (errV (cnE l)) := by
 refine ecalls k_CCheck ?_
 simp [c_CCheck, CNv, I]
 by_cases c1 : l.length < 1
 ·have c1' : (l.length : Int) < 1 := by omega
  have d1 : ¬ 1 ≤ l.length := by omega
  have d1' : ¬ (1 : Int) ≤ (l.length : Int) := by omega
  have hv : cnE l = 1 := if_neg (by omega)
  rw [hv]
  simp [c1, c1', d1, d1']
  exact fin0
 have c1' : ¬ (l.length : Int) < 1 := by omega
 have d1 : 1 ≤ l.length := by omega
 have d1' : (1 : Int) ≤ (l.length : Int) := by omega
 by_cases c2 : 8 < l.length
 ·have c2' : (8 : Int) < (l.length : Int) := by omega
  have d2 : ¬ l.length ≤ 8 := by omega
  have d2' : ¬ (l.length : Int) ≤ 8 := by omega
  have hv : cnE l = 1 := if_neg (by omega)
  rw [hv]
  simp [c1, c1', d1, d1', c2, c2', d2, d2']
  exact fin0
 have c2' : ¬ (8 : Int) < (l.length : Int) := by omega
 have d2 : l.length ≤ 8 := by omega
 have d2' : (l.length : Int) ≤ 8 := by omega
 simp [c1, c1', d1, d1', c2, c2', d2, d2']
 refine call0 (ConBr_ok l hl hn) (by simp) ?_
 rintro y H' ⟨rfl, rfl⟩
 refine ⟨.inl (by simp), le_ok rfl, ?_⟩
 cases hP : l.all brM
 ·have hv : cnE l = 1 := if_neg (by rw [hP]; simp)
  rw [hv]
  simp
  exact fin0
 ·have hv : cnE l = 0 := if_pos ⟨by omega, hP⟩
  rw [hv]
  simp
  exact fin0
theorem OutChk_ok (o : Outp) (h : o.ok) : ECalls Tryz.prog 100 [.v (.agg (outC o))] [] fun y H' => H' = [] ∧ y = .lit (errV (ouE o)) := by
 obtain ⟨h1, h2, h3⟩ := h
 refine ecalls k_OutChk ?_
 simp [c_OutChk, outC, I, iC]
 by_cases c1 : o.am < 10
 ·rw [show ouE o = 27 from if_pos c1]
  simp [c1]
  exact fin0
 by_cases c2 : 1125899906842624 < o.am
 ·rw [show ouE o = 5 by unfold ouE; rw [if_neg c1, if_pos c2]]
  simp [c1, c2]
  exact fin0
 rw [show ouE o = cnE o.cs by unfold ouE; rw [if_neg c1, if_neg c2]]
 simp [c1, c2]
 refine call0 (CCheck_ok o.cs h2 h3) (by simp [CNv]) ?_
 rintro y H' ⟨rfl, rfl⟩
 refine ⟨.inl (by simp), le_ok rfl, ?_⟩
 simp [-errV_0]
 exact fin0
theorem TxSome_ok (n : Int) : ECalls Tryz.prog 98 [I .i64 n] [] fun y H' => H' = [] ∧ y = .lit (.bool (decide (1 ≤ n ∧ n ≤ 64))) := by
 refine ecalls k_TxSome ?_
 simp [c_TxSome, I]
 by_cases c1 : 1 ≤ n
 ·by_cases c2 : n ≤ 64
  ·simp [c1, c2]
   exact fin0
  ·simp [c1, c2]
   exact fin0
 ·simp [c1]
  exact fin0
def restN : Nat → Nat → List Int → List Int
 | 0, _, l => l
 | k + 1, i, l => restN k (i + 1) (sinkS i l)
def insN (l : List Int) : List Int := restN (l.length - 1) 1 l
def RisI (l : List Int) : Prop := ∀ i a b, l[i]? = some a → l[i + 1]? = some b → a < b
theorem sink_ris {l : List Int} (h : RisI l) (i : Nat) (hi : i < l.length) : sinkS i l = l := by
 cases i with
 | zero => rfl
 | succ j =>
  unfold sinkS
  obtain ⟨a, ha⟩ : ∃ a, l[j]? = some a := ⟨l[j], by simp [show j < l.length by omega]⟩
  obtain ⟨b, hb⟩ : ∃ b, l[j + 1]? = some b := ⟨l[j + 1], by simp [hi]⟩
  have := h j a b ha hb
  rw [ha, hb, if_neg (by simp; omega)]
theorem rest_ris {l : List Int} (h : RisI l) : ∀ (k i : Nat), i + k ≤ l.length → restN k i l = l
 | 0, _, _ => rfl
 | k + 1, i, hk => by
  unfold restN
  rw [sink_ris h i (by omega)]
  exact rest_ris h k (i + 1) (by omega)
theorem ins_ris {l : List Int} (h : RisI l) : insN l = l := by
 unfold insN
 rcases Nat.eq_zero_or_pos l.length with e | e
 ·rw [e]; rfl
 ·exact rest_ris h _ _ (by omega)
theorem ins_two (a b : Int) : insN [a, b] = if b < a then [b, a] else [a, b] := by
 show sinkS 1 [a, b] = _
 unfold sinkS
 by_cases h : b < a
 ·simp [h, sinkS, swS]
 ·simp [h]
theorem restN_len : ∀ (k i : Nat) (l : List Int), (restN k i l).length = l.length
 | 0, _, _ => rfl
 | k + 1, i, l => by unfold restN; rw [restN_len k, sinkS_len]
theorem insN_len (l : List Int) : (insN l).length = l.length := restN_len _ _ _
theorem InsN_ok (l : List Int) (n : Nat) (h3 : l.length = n) (hn1 : 1 ≤ n) (hn2 : n ≤ 1000) : ECalls Tryz.prog 145 [.v (.c (.row 0 n)), I .i64 0, I .i64 n] [.row 3 1 (intv l)] fun y H' => H' = [some (.row 3 1 (intv (insN l)))] ∧ y = .tup [] := by
 obtain ⟨F, hF⟩ : ∃ F, insN l = F := ⟨_, rfl⟩
 rw [hF]
 have w0 : IntKind.i64.wrap 1 = 1 := by decide +kernel
 refine ecalls k_InsI ?_
 simp [c_InsI, I, w0]
 refine eloop (α := Nat × List Int) (fun a => 1 ≤ a.1 ∧ a.1 ≤ n ∧ a.2.length = n ∧ restN (n - a.1) a.1 a.2 = F) (fun a => n - a.1)
  (fun a => [.v (.c (.row 0 n)), I .i64 0, I .i64 n, xA, xA, xA, I .i64 a.1, xA, xA, xA, xA, xA, xA, xA, xA, xA, xA, xA, xA, xA, xA, xA, xA, xA, xA, xA, xA, xA, xA, xA, xA, xA, xA, xA, xA, xA, xA, xA, xA, xA, xA, xA, xA, xA, xA, xA, xA, xA, .any]) (fun a => [some (.row 3 1 (intv a.2))]) (1, l) [0]
  ⟨by simp, by simpa using hn1, h3, by rw [← hF, ← h3]; rfl⟩ (by simp [I]) (by simp) (by simp) (by simp) (by simp) ?_
 rintro ⟨i, m⟩ ⟨hi1, hi3, hm, hr⟩
 dsimp only at hi1 hi3 hm hr
 by_cases hlt : i < n
 ·have hli : (i : Int) < n := by omega
  have w1 := wS (i := i) (by omega)
  have hnext : restN (n - (i + 1)) (i + 1) (sinkS i m) = F := by
   rw [← hr, show n - i = (n - (i + 1)) + 1 by omega]
   rfl
  obtain ⟨G, hG⟩ : ∃ G, sinkS i m = G := ⟨_, rfl⟩
  have hGl : G.length = n := by rw [← hG, sinkS_len]; exact hm
  rw [hG] at hnext
  simp [I, hli, hlt]
  refine eloop (α := Nat × List Int) (fun a => a.1 ≤ i ∧ a.2.length = n ∧ sinkS a.1 a.2 = G) (fun a => a.1)
   (fun a => [.v (.c (.row 0 n)), I .i64 0, I .i64 n, xA, xA, xA, I .i64 i, I .i64 a.1, xA, xA, xA, xA, xA, xA, xA, xA, xA, xA, xA, xA, xA, xA, xA, xA, xA, xA, xA, xA, xA, xA, xA, xA, xA, xA, xA, xA, xA, xA, xA, xA, xA, xA, xA, xA, xA, xA, xA, xA, .any]) (fun a => [some (.row 3 1 (intv a.2))]) (i, m) [0]
   ⟨Nat.le_refl _, hm, hG⟩ (by simp [I]) (by simp) (by simp) (by simp) (by simp) ?_
  rintro ⟨j, k⟩ ⟨hj, hk, hs⟩
  dsimp only at hj hk hs
  rcases Nat.eq_zero_or_pos j with hj0 | hj0
  ·subst hj0
   have hkG : k = G := hs
   subst hkG
   simp [I, w1, -Int.natCast_add]
   exact round (i + 1, k) [0] ⟨by dsimp only; omega, by dsimp only; omega, hk, hnext⟩ (by dsimp only; omega) (by simp [I]) (by simp) (by simp) (by simp) (by simp)
  ·obtain ⟨p, rfl⟩ : ∃ p, j = p + 1 := ⟨j - 1, by omega⟩
   have hjp : (0 : Int) < ((p + 1 : Nat) : Int) := by omega
   have wj : IntKind.i64.wrap (((p + 1 : Nat) : Int) - 1) = (p : Int) := by rw [wrap_i64 (by omega) (by omega)]; omega
   obtain ⟨j, hje⟩ : ∃ j, p + 1 = j := ⟨_, rfl⟩
   have hp3 : p < n := by omega
   have hj3 : j < n := by omega
   obtain ⟨A, hA⟩ : ∃ A, (k[p]?).getD 0 = A := ⟨_, rfl⟩
   obtain ⟨B, hB⟩ : ∃ B, (k[j]?).getD 0 = B := ⟨_, rfl⟩
   have ga : ∀ h2, (intv k)[p]'h2 = [.lit (.int .i64 A)] := fun h2 => by rw [intv_at (by omega), hA]
   have gb : ∀ h2, (intv k)[j]'h2 = [.lit (.int .i64 B)] := fun h2 => by rw [intv_at (by omega), hB]
   have hs' : (if B < A then sinkS p (swS k p) else k) = G := by
    rw [← hs, ← hB, ← hA, ← hje]
    rfl
   rw [hje] at hjp wj
   have ip : (p : Int) < n := by omega
   have ij : (j : Int) < n := by omega
   have n0 : ¬ ((j : Int) < 0) := by omega
   have n1 : ¬ ((p : Int) < 0) := by omega
   rw [hje]
   have hjn : 0 < j := by omega
   simp [I, hjp, hjn, wj, ga, gb, hk, hp3, hj3, ip, ij, n0, n1]
   refine call0 (LessI_ok B A) (by simp [I]) ?_
   rintro y H' ⟨rfl, rfl⟩
   refine ⟨.inl (by simp), le_ok rfl, ?_⟩
   have hsw : (k.set j A).set p B = swS k p := by unfold swS; rw [hje, hA, hB]
   by_cases hBA : B < A
   ·rw [if_pos hBA] at hs'
    rw [decide_eq_true hBA]
    have gp : ∀ h2, (intv (k.set j A))[p]'h2 = [.lit (.int .i64 (((k.set j A)[p]?).getD 0))] := fun h2 => intv_at (by simp; omega) h2
    simp [I, wj, ga, gb, gp, hk, hp3, hj3, ip, ij, n0, n1, intv_set, hsw]
    exact round (p, swS k p) [0] ⟨by dsimp only; omega, by rw [swS_len]; exact hk, hs'⟩ (by dsimp only; omega) (by simp [I]) (by simp) (by simp) (by simp) (by simp)
   ·rw [if_neg hBA] at hs'
    subst hs'
    rw [decide_eq_false hBA]
    simp [I, w1, -Int.natCast_add]
    exact round (i + 1, k) [0] ⟨by dsimp only; omega, by dsimp only; omega, hk, hnext⟩ (by dsimp only; omega) (by simp [I]) (by simp) (by simp) (by simp) (by simp)
 ·have h3' : i = n := by omega
  subst h3'
  have hmF : m = F := by rw [← hr, Nat.sub_self]; rfl
  subst hmF
  simp [I]
  exact fin [] (by decide) rfl rfl (by simp [objsOut, show List.range 1 = [0] from rfl]) ⟨rfl, rfl⟩
end Go.Proofs.YtddcceahaigodaaGreatDoor
