import Derived.Test.YtejjhgdnmknejaaGreatDoorAll8
import Derived.Test.YtejjhgdnmknejaaGreatDoorProg
import Derived.Test.YtejjhgdnmknejaaGreatDoorAll5
import Derived.Test.YtejjhgdnmknejaaGreatDoorAll6
import Derived.WalkKit
import Derived.LaidEql
import Derived.RowKitTokens
import Derived.Lib.AppendZeros
set_option maxHeartbeats 64000000
namespace Go.Proofs.YtejjhgdnmknejaaGreatDoor
open Go Go.EW
set_option linter.unusedSimpArgs false
set_option linter.unusedVariables false
def yl1me : UL | _ => [xM 12 4 16]
def yl1mf : UL | _ => xR 6 11 7 10 :: xM 7 12 11 :: yM 8 13 12 false 0 :: yM 9 14 12 false 1 :: xG 10 15 12 false (.bin .lss (.t 13) (.t 14)) :: xP 11 16 12 15 :: hid yl1me
def yl1mg : UL | _ => xM 0 5 0 :: xO 1 6 (.call 190 [.t 5]) :: xM 2 7 6 :: yM 3 8 7 true 1 :: ⟨4, (some 9), (some (7, true)), (.call 190 [.t 8]), []⟩ :: xG 5 10 7 true (.un .not (.t 9)) :: hid yl1mf
def yb1mh : UB | _ => .seq (reg0 [xQ 0 4 (.mov (.k (.bool false)))] 1) (.seq (reg0 (hid yl1mg) 13) .ret)
attribute [simp] yl1me yl1mf yl1mg yb1mh
def c_LessI : EB × List QOp × Nat := ((hid yb1mh), [(.mov (.t 4))], 17)
theorem k_LessI : cfun Tryz.prog 144 = some c_LessI := by kernel_rfl
def yl1ml : UL | _ => [yL 12 28 19 true 27, ⟨13, (some 29), (some (19, true)), (.call 144 [.t 23, .t 28]), []⟩, xR 14 30 19 29]
def yl1mm : UL | _ => xG 6 22 19 true (.isl 1 (.t 20) (.t 21)) :: yL 7 23 19 true 22 :: yM 8 24 19 true 0 :: yM 9 25 19 true 7 :: xG 10 26 19 true (.bin .sub (.t 25) (xK 1)) :: xG 11 27 19 true (.isl 1 (.t 24) (.t 26)) :: hid yl1ml
def yl1mn : UL | _ => xM 0 16 7 :: xM 1 17 1 :: xb 2 18 .gtr 16 17 :: xM 3 19 18 :: yM 4 20 19 true 0 :: yM 5 21 19 true 7 :: hid yl1mm
def yl1mo : UL | _ => [xI 12 45 1 43 44, xL 13 46 45, xI 14 47 1 33 34, ⟨15, none, none, (.sto 1 (.t 47) (.t 42)), [2, 3, 4]⟩, xI 16 48 1 35 37, xN 17 (.sto 1 (.t 48) (.t 46))]
def yl1mp : UL | _ => xM 6 39 7 :: xc 7 40 .sub 39 1 :: xI 8 41 1 38 40 :: xL 9 42 41 :: xM 10 43 0 :: xM 11 44 7 :: hid yl1mo
def yl1mq : UL | _ => xM 0 33 0 :: xM 1 34 7 :: xM 2 35 0 :: xM 3 36 7 :: xc 4 37 .sub 36 1 :: xM 5 38 0 :: hid yl1mp
def yb1mt : UB | _ => .block 1 (.seq (reg0 [xM 0 15 6, xM 1 7 15] 2) (.block 2 (.loop (.seq (.seq (reg0 (hid yl1mn) 15) (.cond (.t 30) .skip (.exit 2))) (.seq (.block 3 (reg1 (hid yl1mq) 18)) (reg0 [xM 0 31 7, xc 1 32 .sub 31 1, xM 2 7 32] 3))))))
def yb1mv : UB | _ => .seq (.seq (reg0 [xM 0 10 6, xM 1 11 2, xb 2 12 .lss 10 11] 3) (.cond (.t 12) .skip (.exit 0))) (.seq (hid yb1mt) (reg0 [xM 0 13 6, xc 1 14 .add 13 1, xM 2 6 14] 3))
def yb1mw : UB | _ => .seq (reg0 [xM 0 8 1, xc 1 9 .add 8 1, xM 2 6 9] 3) (.block 0 (.loop (hid yb1mv)))
attribute [simp] yl1ml yl1mm yl1mn yl1mo yl1mp yl1mq yb1mt yb1mv yb1mw
def c_InsI : EB × List QOp × Nat := ((hid yb1mw), [], 49)
theorem k_InsI : cfun Tryz.prog 180 = some c_InsI := by kernel_rfl
def yl1n1 : UL | _ => [xM 0 24 0, xM 1 25 1, xM 2 26 2, xO 3 27 (.call 180 [.t 24, .t 25, .t 26])]
def yl1n4 : UL | _ => [xM 0 30 0, xM 1 31 1, xM 2 32 2, xO 3 33 (.call 181 [.t 30, .t 31, .t 32])]
def yl1n7 : UL | _ => [xM 0 36 0, xM 1 37 1, xM 2 38 2, xO 3 39 (.call 182 [.t 36, .t 37, .t 38])]
def yl1na : UL | _ => [xX 6 48 1 42, xM 7 11 47, xM 8 12 48]
def yl1nb : UL | _ => xM 0 43 0 :: xM 1 44 1 :: xM 2 45 2 :: xO 3 46 (.call 183 [.t 43, .t 44, .t 45]) :: xM 4 42 46 :: xX 5 47 0 42 :: hid yl1na
def yl1nd : UL | _ => [xM 0 51 0, xM 1 52 1, xM 2 53 2, xO 3 54 (.call 184 [.t 51, .t 52, .t 53])]
def yl1ne : UL | _ => [xM 6 11 60]
def yl1nf : UL | _ => xM 0 55 2 :: xc 1 56 .sub 55 1 :: xM 2 57 11 :: xM 3 58 1 :: xb 4 59 .sub 57 58 :: xb 5 60 .sub 56 59 :: hid yl1ne
def yl1ni : UL | _ => [xG 6 67 65 true (.bin .eql (.t 66) (xK 1)), xR 7 68 65 67]
def yl1nj : UL | _ => xM 0 61 8 :: xM 1 62 61 :: yM 2 63 62 true 9 :: xR 3 64 62 63 :: xM 4 65 64 :: yM 5 66 65 true 12 :: hid yl1ni
def yl1nk : UL | _ => [xM 0 69 0, xM 1 70 1, xM 2 71 2, xO 3 72 (.call 185 [.t 69, .t 70, .t 71])]
def yl1nm : UL | _ => [⟨12, (some 85), (some (75, true)), (.call 144 [.t 80, .t 84]), []⟩, xG 13 86 75 true (.un .not (.t 85)), xR 14 87 75 86]
def yl1nn : UL | _ => xG 6 79 75 true (.isl 1 (.t 76) (.t 78)) :: yL 7 80 75 true 79 :: yM 8 81 75 true 0 :: yM 9 82 75 true 11 :: xG 10 83 75 true (.isl 1 (.t 81) (.t 82)) :: yL 11 84 75 true 83 :: hid yl1nm
def yl1no : UL | _ => xM 0 73 1 :: xc 1 74 .gtr 73 0 :: xM 2 75 74 :: yM 3 76 75 true 0 :: yM 4 77 75 true 1 :: xG 5 78 75 true (.bin .sub (.t 77) (xK 1)) :: hid yl1nn
def yl1np : UL | _ => [xM 0 88 0, xM 1 89 1, xM 2 90 2, xM 3 91 11, xO 4 92 (.call 186 [.t 88, .t 89, .t 90, .t 91]), xM 5 13 92]
def yl1ns : UL | _ => [xX 6 100 0 94, xX 7 101 1 94, xM 8 14 100, xM 9 15 101]
def yl1nt : UL | _ => xM 0 95 0 :: xM 1 96 1 :: xM 2 97 2 :: xM 3 98 11 :: xO 4 99 (.call 187 [.t 95, .t 96, .t 97, .t 98]) :: xM 5 94 99 :: hid yl1ns
def yl1nv : UL | _ => [xM 6 16 105, xM 7 17 108]
def yl1nw : UL | _ => xM 0 103 14 :: xM 1 104 1 :: xb 2 105 .sub 103 104 :: xM 3 106 2 :: xM 4 107 14 :: xb 5 108 .sub 106 107 :: hid yl1nv
def yl1o0 : UL | _ => [xM 0 117 0, xM 1 118 1, xM 2 119 14, xM 3 120 3, xO 4 121 (.call 142 [.t 117, .t 118, .t 119, .t 120])]
def yl1o4 : UL | _ => [xM 0 127 0, xM 1 128 14, xc 2 129 .add 128 1, xM 3 130 2, xM 4 131 3, xO 5 132 (.call 142 [.t 127, .t 129, .t 130, .t 131])]
def yb1o6 : UB | _ => .seq (reg0 [xM 0 124 17, xM 1 125 18, xb 2 126 .geq 124 125, xM 3 8 126] 4) (.seq (reg0 (hid yl1o4) 6) (reg0 [xM 0 133 14, xM 1 2 133] 2))
def yb1o7 : UB | _ => .seq (reg0 [xM 0 111 16, xM 1 112 17, xb 2 113 .lss 111 112] 3) (.cond (.t 113) (.seq (reg0 [xM 0 114 16, xM 1 115 18, xb 2 116 .geq 114 115, xM 3 8 116] 4) (.seq (reg0 (hid yl1o0) 5) (reg0 [xM 0 122 14, xc 1 123 .add 122 1, xM 2 1 123] 3))) (hid yb1o6))
def yb1o8 : UB | _ => .seq (reg0 (hid yl1nw) 8) (.seq (reg0 [xM 0 109 10, xc 1 110 .quo 109 8, xM 2 18 110] 3) (hid yb1o7))
def yb1o9 : UB | _ => .seq (reg0 (hid yl1nt) 10) (.seq (reg0 [xM 0 102 15, xM 1 9 102] 2) (hid yb1o8))
def yb1oa : UB | _ => .seq (.seq (reg0 (hid yl1no) 15) (.cond (.t 87) (.seq (reg0 (hid yl1np) 6) (.seq (reg0 [xM 0 93 13, xM 1 1 93] 2) (.exit 1))) .skip)) (hid yb1o9)
def yb1ob : UB | _ => .seq (.seq (reg0 [xM 0 49 12, xc 1 50 .eql 49 2] 2) (.cond (.t 50) (.seq (reg0 (hid yl1nd) 4) (.seq (reg0 (hid yl1nf) 7) (reg0 [xC 0 12 1] 1))) .skip)) (.seq (.seq (reg0 (hid yl1nj) 8) (.cond (.t 68) (.seq (reg0 (hid yl1nk) 4) (.cond (.t 72) .ret .skip)) .skip)) (hid yb1oa))
def yb1oc : UB | _ => .seq (.seq (reg0 [xM 0 34 8, xQ 1 35 (.un .not (.t 34))] 2) (.cond (.t 35) (.seq (reg0 (hid yl1n7) 4) (reg0 [xM 0 40 3, xc 1 41 .sub 40 1, xM 2 3 41] 3)) .skip)) (.seq (reg0 (hid yl1nb) 9) (hid yb1ob))
def yb1od : UB | _ => .seq (reg0 [xM 0 19 2, xM 1 20 1, xb 2 21 .sub 19 20, xM 3 10 21] 4) (.seq (.seq (reg0 [xM 0 22 10, xc 1 23 .leq 22 12] 2) (.cond (.t 23) (.seq (reg0 (hid yl1n1) 4) .ret) .skip)) (.seq (.seq (reg0 [xM 0 28 3, xc 1 29 .eql 28 0] 2) (.cond (.t 29) (.seq (reg0 (hid yl1n4) 4) .ret) .skip)) (hid yb1oc)))
def yb1of : UB | _ => .seq (reg0 [xQ 0 8 (.mov (.k (.bool true)))] 1) (.seq (reg0 [xQ 0 9 (.mov (.k (.bool true)))] 1) (.block 0 (.loop (.block 1 (hid yb1od)))))
attribute [simp] yl1n1 yl1n4 yl1n7 yl1na yl1nb yl1nd yl1ne yl1nf yl1ni yl1nj yl1nk yl1nm yl1nn yl1no yl1np yl1ns yl1nt yl1nv yl1nw yl1o0 yl1o4 yb1o6 yb1o7 yb1o8 yb1o9 yb1oa yb1ob yb1oc yb1od yb1of
def c_PdqI : EB × List QOp × Nat := ((hid yb1of), [], 134)
theorem k_PdqI : cfun Tryz.prog 142 = some c_PdqI := by kernel_rfl
def yl1oh : UL | _ => [xM 0 3 0, xQ 1 4 (.cnv .u32 (.t 3)), xO 2 5 (.call 188 [.t 4]), xM 3 2 5]
def yb1ok : UB | _ => .seq (reg0 [xC 0 2 0] 1) (.seq (.cond (.k (.bool false)) (.seq (reg0 (hid yl1oh) 4) .ret) .skip) (.seq (reg0 [xM 0 6 0, xO 1 7 (.call 189 [.t 6]), xM 2 2 7] 3) .ret))
attribute [simp] yl1oh yb1ok
def c_LenB : EB × List QOp × Nat := ((hid yb1ok), [(.mov (.t 2))], 8)
theorem k_LenB : cfun Tryz.prog 143 = some c_LenB := by kernel_rfl
def s_LenB64_0 : ByteArray := ⟨#[0, 1, 2, 2, 3, 3, 3, 3, 4, 4, 4, 4, 4, 4, 4, 4, 5, 5, 5, 5, 5, 5, 5, 5, 5, 5, 5, 5, 5, 5, 5, 5, 6, 6, 6, 6, 6, 6, 6, 6, 6, 6, 6, 6, 6, 6, 6, 6, 6, 6, 6, 6, 6, 6, 6, 6, 6, 6, 6, 6, 6, 6, 6, 6, 7, 7, 7, 7, 7, 7, 7, 7, 7, 7, 7, 7, 7, 7, 7, 7, 7, 7, 7, 7, 7, 7, 7, 7, 7, 7, 7, 7, 7, 7, 7, 7, 7, 7, 7, 7, 7, 7, 7, 7, 7, 7, 7, 7, 7, 7, 7, 7, 7, 7, 7, 7, 7, 7, 7, 7, 7, 7, 7, 7, 7, 7, 7, 7, 8, 8, 8, 8, 8, 8, 8, 8, 8, 8, 8, 8, 8, 8, 8, 8, 8, 8, 8, 8, 8, 8, 8, 8, 8, 8, 8, 8, 8, 8, 8, 8, 8, 8, 8, 8, 8, 8, 8, 8, 8, 8, 8, 8, 8, 8, 8, 8, 8, 8, 8, 8, 8, 8, 8, 8, 8, 8, 8, 8, 8, 8, 8, 8, 8, 8, 8, 8, 8, 8, 8, 8, 8, 8, 8, 8, 8, 8, 8, 8, 8, 8, 8, 8, 8, 8, 8, 8, 8, 8, 8, 8, 8, 8, 8, 8, 8, 8, 8, 8, 8, 8, 8, 8, 8, 8, 8, 8, 8, 8, 8, 8, 8, 8, 8, 8, 8, 8, 8, 8, 8, 8, 8, 8, 8, 8, 8, 8]⟩
def yl1om : UL | _ => [xM 0 3 0, xQ 1 4 (.bin .geq (.t 3) (.k (.int .u64 4294967296)))]
def yl1on : UL | _ => [xM 0 5 0, xQ 1 6 (.bin .shr (.t 5) (.k (.int .u64 32))), xM 2 0 6]
def yl1or : UL | _ => [xM 0 9 0, xQ 1 10 (.bin .shr (.t 9) (.k (.int .u64 16))), xM 2 0 10]
def yl1ov : UL | _ => [xM 0 15 0, xQ 1 16 (.bin .shr (.t 15) (.k (.int .u64 8))), xM 2 0 16]
def yl1oy : UL | _ => [xM 6 2 24]
def yl1oz : UL | _ => xM 0 19 2 :: xM 1 20 0 :: xQ 2 21 (.cnv .u8 (.t 20)) :: xQ 3 22 (.ixs (.k (.string s_LenB64_0)) (.t 21)) :: xQ 4 23 (.cnv .i64 (.t 22)) :: xb 5 24 .add 19 23 :: hid yl1oy
def yb1p0 : UB | _ => .seq (.seq (reg0 [xM 0 13 0, xQ 1 14 (.bin .geq (.t 13) (.k (.int .u64 256)))] 2) (.cond (.t 14) (.seq (reg0 (hid yl1ov) 3) (reg0 [xM 0 17 2, xc 1 18 .add 17 8, xM 2 2 18] 3)) .skip)) (.seq (reg0 (hid yl1oz) 7) .ret)
def yb1p1 : UB | _ => .seq (.seq (reg0 [xM 0 7 0, xQ 1 8 (.bin .geq (.t 7) (.k (.int .u64 65536)))] 2) (.cond (.t 8) (.seq (reg0 (hid yl1or) 3) (reg0 [xM 0 11 2, xc 1 12 .add 11 16, xM 2 2 12] 3)) .skip)) (hid yb1p0)
def yb1p2 : UB | _ => .seq (.seq (reg0 (hid yl1om) 2) (.cond (.t 4) (.seq (reg0 (hid yl1on) 3) (reg0 [xC 0 2 32] 1)) .skip)) (hid yb1p1)
def yb1p3 : UB | _ => .seq (reg0 [xC 0 2 0] 1) (hid yb1p2)
attribute [simp] yl1om yl1on yl1or yl1ov yl1oy yl1oz yb1p0 yb1p1 yb1p2 yb1p3
def c_LenB64 : EB × List QOp × Nat := ((hid yb1p3), [(.mov (.t 2))], 25)
theorem k_LenB64 : cfun Tryz.prog 189 = some c_LenB64 := by kernel_rfl
def yl1p5 : UL | _ => [xM 0 5 0, xM 1 6 2, xM 2 7 2, xQ 3 8 (.cnv .u64 (.t 7)), xO 4 9 (.call 143 [.t 8]), xO 5 10 (.call 142 [.t 5, (xK 0), .t 6, .t 9])]
def yb1p6 : UB | _ => .seq (reg0 [xM 0 3 0, xE 1 4 3, xM 2 2 4] 3) (reg0 (hid yl1p5) 6)
attribute [simp] yl1p5 yb1p6
def c_SortI : EB × List QOp × Nat := ((hid yb1p6), [], 11)
theorem k_SortI : cfun Tryz.prog 77 = some c_SortI := by kernel_rfl
theorem LessI_ok (a b : Int) : ECalls Tryz.prog 144 [I .i64 a, I .i64 b] [] fun y H' => H' = [] ∧ y = .lit (.bool (decide (a < b))) := by
 refine ecalls k_LessI ?_
 simp [c_LessI, I]
 refine call0 (NaNI_ok a) (by simp [I]) ?_
 rintro y H' ⟨rfl, rfl⟩
 refine ⟨.inl (by simp), le_ok rfl, ?_⟩
 simp
 exact fin0
def swS (l : List Int) (j : Nat) : List Int := (l.set (j + 1) ((l[j]?).getD 0)).set j ((l[j + 1]?).getD 0)
theorem swS_len (l : List Int) (j : Nat) : (swS l j).length = l.length := by simp [swS]
def sinkS : Nat → List Int → List Int
 | 0, l => l
 | j + 1, l => if (l[j + 1]?).getD 0 < (l[j]?).getD 0 then sinkS j (swS l j) else l
theorem sinkS_len : ∀ (j : Nat) (l : List Int), (sinkS j l).length = l.length
 | 0, _ => rfl
 | j + 1, l => by
  unfold sinkS
  split
  ·rw [sinkS_len j, swS_len]
  ·rfl
def restS : Nat → List Int → List Int
 | 1, l => sinkS 2 (sinkS 1 l)
 | 2, l => sinkS 2 l
 | _, l => l
def srt (l : List Int) : List Int := restS 1 l
theorem srt_len (l : List Int) : (srt l).length = l.length := by show (sinkS 2 (sinkS 1 l)).length = l.length; rw [sinkS_len, sinkS_len]
theorem intv_at {l : List Int} {i : Nat} (h : i < l.length) (h2 : i < (intv l).length) : (intv l)[i]'h2 = [.lit (.int .i64 ((l[i]?).getD 0))] := by
 simp [intv, h]
theorem intv_set (l : List Int) (i : Nat) (x : Int) : (intv l).set i [.lit (.int .i64 x)] = intv (l.set i x) := by simp [intv, List.map_set]
theorem InsI_ok (l : List Int) (h3 : l.length = 3) : ECalls Tryz.prog 180 [.v (.c (.row 0 3)), I .i64 0, I .i64 3] [.row 3 1 (intv l)] fun y H' => H' = [some (.row 3 1 (intv (srt l)))] ∧ y = .tup [] := by
 obtain ⟨F, hF⟩ : ∃ F, srt l = F := ⟨_, rfl⟩
 rw [hF]
 have w0 : IntKind.i64.wrap 1 = 1 := by decide +kernel
 refine ecalls k_InsI ?_
 simp [c_InsI, I, w0]
 refine eloop (α := Nat × List Int) (fun a => 1 ≤ a.1 ∧ a.1 ≤ 3 ∧ a.2.length = 3 ∧ restS a.1 a.2 = F) (fun a => 3 - a.1)
  (fun a => [.v (.c (.row 0 3)), I .i64 0, I .i64 3, xA, xA, xA, I .i64 a.1, xA, xA, xA, xA, xA, xA, xA, xA, xA, xA, xA, xA, xA, xA, xA, xA, xA, xA, xA, xA, xA, xA, xA, xA, xA, xA, xA, xA, xA, xA, xA, xA, xA, xA, xA, xA, xA, xA, xA, xA, xA, .any]) (fun a => [some (.row 3 1 (intv a.2))]) (1, l) [0]
  ⟨by simp, by simp, h3, hF⟩ (by simp [I]) (by simp) (by simp) (by simp) (by simp) ?_
 rintro ⟨i, m⟩ ⟨hi1, hi3, hm, hr⟩
 dsimp only at hi1 hi3 hm hr
 by_cases hlt : i < 3
 ·have hli : (i : Int) < 3 := by omega
  have w1 := wS (i := i) (by omega)
  have hnext : restS (i + 1) (sinkS i m) = F := by
   rw [← hr]
   rcases (by omega : i = 1 ∨ i = 2) with rfl | rfl
   ·rfl
   ·rfl
  obtain ⟨G, hG⟩ : ∃ G, sinkS i m = G := ⟨_, rfl⟩
  have hGl : G.length = 3 := by rw [← hG, sinkS_len]; exact hm
  rw [hG] at hnext
  simp [I, hli, hlt]
  refine eloop (α := Nat × List Int) (fun a => a.1 ≤ i ∧ a.2.length = 3 ∧ sinkS a.1 a.2 = G) (fun a => a.1)
   (fun a => [.v (.c (.row 0 3)), I .i64 0, I .i64 3, xA, xA, xA, I .i64 i, I .i64 a.1, xA, xA, xA, xA, xA, xA, xA, xA, xA, xA, xA, xA, xA, xA, xA, xA, xA, xA, xA, xA, xA, xA, xA, xA, xA, xA, xA, xA, xA, xA, xA, xA, xA, xA, xA, xA, xA, xA, xA, xA, .any]) (fun a => [some (.row 3 1 (intv a.2))]) (i, m) [0]
   ⟨Nat.le_refl _, hm, hG⟩ (by simp [I]) (by simp) (by simp) (by simp) (by simp) ?_
  rintro ⟨j, k⟩ ⟨hj, hk, hs⟩
  dsimp only at hj hk hs
  rcases Nat.eq_zero_or_pos j with hj0 | hj0
  ·subst hj0
   have hkG : k = G := hs
   subst hkG
   simp [I, w1, -Int.natCast_add]
   exact round (i + 1, k) [0] ⟨by dsimp only; omega, by dsimp only; omega, hk, hnext⟩ (by dsimp only; omega) (by simp [I]) (by simp) (by simp) (by simp) (by simp)
  ·obtain ⟨p, rfl⟩ : ∃ p, j = p + 1 := ⟨j - 1, by omega⟩
   have hjp : (0 : Int) < ((p + 1 : Nat) : Int) := by omega
   have wj : IntKind.i64.wrap (((p + 1 : Nat) : Int) - 1) = (p : Int) := by rw [wrap_i64 (by omega) (by omega)]; omega
   obtain ⟨j, hje⟩ : ∃ j, p + 1 = j := ⟨_, rfl⟩
   have hp3 : p < 3 := by omega
   have hj3 : j < 3 := by omega
   obtain ⟨A, hA⟩ : ∃ A, (k[p]?).getD 0 = A := ⟨_, rfl⟩
   obtain ⟨B, hB⟩ : ∃ B, (k[j]?).getD 0 = B := ⟨_, rfl⟩
   have ga : ∀ h2, (intv k)[p]'h2 = [.lit (.int .i64 A)] := fun h2 => by rw [intv_at (by omega), hA]
   have gb : ∀ h2, (intv k)[j]'h2 = [.lit (.int .i64 B)] := fun h2 => by rw [intv_at (by omega), hB]
   have hs' : (if B < A then sinkS p (swS k p) else k) = G := by
    rw [← hs, ← hB, ← hA, ← hje]
    rfl
   rw [hje] at hjp wj
   have ip : (p : Int) < 3 := by omega
   have ij : (j : Int) < 3 := by omega
   have n0 : ¬ ((j : Int) < 0) := by omega
   have n1 : ¬ ((p : Int) < 0) := by omega
   rw [hje]
   have hjn : 0 < j := by omega
   simp [I, hjp, hjn, wj, ga, gb, hk, hp3, hj3, ip, ij, n0, n1]
   refine call0 (LessI_ok B A) (by simp [I]) ?_
   rintro y H' ⟨rfl, rfl⟩
   refine ⟨.inl (by simp), le_ok rfl, ?_⟩
   have hsw : (k.set j A).set p B = swS k p := by unfold swS; rw [hje, hA, hB]
   by_cases hBA : B < A
   ·rw [if_pos hBA] at hs'
    rw [decide_eq_true hBA]
    have gp : ∀ h2, (intv (k.set j A))[p]'h2 = [.lit (.int .i64 (((k.set j A)[p]?).getD 0))] := fun h2 => intv_at (by simp; omega) h2
    simp [I, wj, ga, gb, gp, hk, hp3, hj3, ip, ij, n0, n1, intv_set, hsw]
    exact round (p, swS k p) [0] ⟨by dsimp only; omega, by rw [swS_len]; exact hk, hs'⟩ (by dsimp only; omega) (by simp [I]) (by simp) (by simp) (by simp) (by simp)
   ·rw [if_neg hBA] at hs'
    subst hs'
    rw [decide_eq_false hBA]
    simp [I, w1, -Int.natCast_add]
    exact round (i + 1, k) [0] ⟨by dsimp only; omega, by dsimp only; omega, hk, hnext⟩ (by dsimp only; omega) (by simp [I]) (by simp) (by simp) (by simp) (by simp)
 ·have h3' : i = 3 := by omega
  subst h3'
  have hmF : m = F := hr
  subst hmF
  simp [I]
  exact fin [] (by decide) rfl rfl (by simp [objsOut, show List.range 1 = [0] from rfl]) ⟨rfl, rfl⟩
theorem LenB64_ok : ECalls Tryz.prog 189 [.lit (.int .u64 3)] [] fun y H' => H' = [] ∧ y = I .i64 2 := by
 refine ecalls k_LenB64 ?_
 have w1 : IntKind.u8.wrap 3 = 3 := by decide +kernel
 have w2 : IntKind.i64.wrap 2 = 2 := by decide +kernel
 have hs : s_LenB64_0.data[3]? = some 2 := by decide +kernel
 simp [c_LenB64, I, w1, hs, w2]
 exact fin0
theorem LenB_ok : ECalls Tryz.prog 143 [.lit (.int .u64 3)] [] fun y H' => H' = [] ∧ y = I .i64 2 := by
 refine ecalls k_LenB ?_
 simp [c_LenB, I]
 refine call0 LenB64_ok (by simp) ?_
 rintro y H' ⟨rfl, rfl⟩
 refine ⟨.inl (by simp [I]), le_ok rfl, ?_⟩
 simp [I]
 exact fin0
theorem PdqI_ok (l : List Int) (k : Int) (h3 : l.length = 3) : ECalls Tryz.prog 142 [.v (.c (.row 0 3)), I .i64 0, I .i64 3, I .i64 k] [.row 3 1 (intv l)] fun y H' => H' = [some (.row 3 1 (intv (srt l)))] ∧ y = .tup [] := by
 have w0 : IntKind.i64.wrap 3 = 3 := by decide +kernel
 refine ecalls k_PdqI ?_
 simp [c_PdqI, I]
 refine eloop (α := Nat) (fun i => i = 0) (fun i => i) (fun i => [.v (.c (.row 0 3)), I .i64 0, I .i64 3, I .i64 k, xA, xA, xA, xA, .lit (.bool true), .lit (.bool true), xA, xA, xA, xA, xA, xA, xA, xA, xA, xA, xA, xA, xA, xA, xA, xA, xA, xA, xA, xA, xA, xA, xA, xA, xA, xA, xA, xA, xA, xA, xA, xA, xA, xA, xA, xA, xA, xA, xA, xA, xA, xA, xA, xA, xA, xA, xA, xA, xA, xA, xA, xA, xA, xA, xA, xA, xA, xA, xA, xA, xA, xA, xA, xA, xA, xA, xA, xA, xA, xA, xA, xA, xA, xA, xA, xA, xA, xA, xA, xA, xA, xA, xA, xA, xA, xA, xA, xA, xA, xA, xA, xA, xA, xA, xA, xA, xA, xA, xA, xA, xA, xA, xA, xA, xA, xA, xA, xA, xA, xA, xA, xA, xA, xA, xA, xA, xA, xA, xA, xA, xA, xA, xA, .any]) (fun _ => [some (.row 3 1 (intv l))]) 0 [0]
  rfl (by simp [I]) (by simp) (by simp) (by simp) (by simp) ?_
 rintro i rfl
 simp [I, w0]
 refine callH [0] (InsI_ok l h3) (by simp [I]) (by simp) (by simp) (by simp) (by simp) ?_
 rintro y H' ⟨rfl, rfl⟩
 refine ⟨.inl (by simp), by simp, ?_⟩
 simp
 exact fin [] (by decide) rfl rfl (by simp [objsOut, show List.range 1 = [0] from rfl]) ⟨rfl, rfl⟩
theorem SortI_ok (l : List Int) (h3 : l.length = 3) : ECalls Tryz.prog 77 [.v (.c (.row 0 3))] [.row 3 1 (intv l)] fun y H' => H' = [some (.row 3 1 (intv (srt l)))] ∧ y = .tup [] := by
 have w0 : IntKind.u64.wrap 3 = 3 := by decide +kernel
 refine ecalls k_SortI ?_
 simp [c_SortI, I, w0]
 refine call0 LenB_ok (by simp) ?_
 rintro y H' ⟨rfl, rfl⟩
 refine ⟨.inl (by simp [I]), le_ok rfl, ?_⟩
 simp [I]
 refine callH [0] (PdqI_ok l 2 h3) (by simp [I]) (by simp) (by simp) (by simp) (by simp) ?_
 rintro y H' ⟨rfl, rfl⟩
 refine ⟨.inl (by simp), by simp, ?_⟩
 simp
 exact fin [] (by decide) rfl rfl (by simp [objsOut, show List.range 1 = [0] from rfl]) ⟨rfl, rfl⟩
def yl1p8 : UL | _ => [xM 6 2 8]
def yl1p9 : UL | _ => xM 0 3 0 :: xc 1 4 .geq 3 0 :: xM 2 5 4 :: yM 3 6 5 true 0 :: xG 4 7 5 true (.bin .lss (.t 6) (xK 16)) :: xR 5 8 5 7 :: hid yl1p8
def yb1pa : UB | _ => .seq (reg0 [xQ 0 2 (.mov (.k (.bool false)))] 1) (.seq (reg0 (hid yl1p9) 7) .ret)
attribute [simp] yl1p8 yl1p9 yb1pa
def c_Vparty : EB × List QOp × Nat := ((hid yb1pa), [(.mov (.t 2))], 9)
theorem k_Vparty : cfun Tryz.prog 49 = some c_Vparty := by kernel_rfl
def yl1pc : UL | _ => [xG 12 19 13 false (.eqa false 2 .i64 (.t 15) (.t 18)), xP 13 20 13 19, xM 14 6 20]
def yl1pd : UL | _ => xM 6 13 12 :: yF 7 14 13 false 34 3 :: xG 8 15 13 false (.lda 2 (.t 14)) :: yM 9 16 13 false 2 :: yM 10 17 13 false 1 :: xG 11 18 13 false (.build [xZ, xZ] [(0, 1, .t 16), (1, 1, .t 17)]) :: hid yl1pc
def yl1pe : UL | _ => xF 0 7 34 3 :: xD 1 8 2 7 :: xM 2 9 1 :: xM 3 10 2 :: xQ 4 11 (.build [xZ, xZ] [(0, 1, .t 9), (1, 1, .t 10)]) :: xQ 5 12 (.eqa false 2 .i64 (.t 8) (.t 11)) :: hid yl1pd
def yb1pf : UB | _ => .seq (reg0 [xW 0 3 42 0, xQ 1 6 (.mov (.k (.bool false)))] 2) (.seq (reg0 (hid yl1pe) 15) .ret)
attribute [simp] yl1pc yl1pd yl1pe yb1pf
def c_Vof : EB × List QOp × Nat := ((hid yb1pf), [(.mov (.t 6))], 21)
theorem k_Vof : cfun Tryz.prog 50 = some c_Vof := by kernel_rfl
structure Prm where
 tx : List UInt8
 n : Int
 am : Int
 k0 : Int
 k1 : Int
 dl : Int
 fe : Int
structure Rte where
 f : Prm
 s : Prm
 a : Int
 b : Int
 c : Int
 am : Int
 fe : Int
def iC (n : Int) : EC := .fz (.lit (.int .i64 n))
def prmC (p : Prm) : List EC := hc p.tx ++ [iC p.n, iC p.am, iC p.k0, iC p.k1, iC p.dl, iC p.fe]
def rteC (r : Rte) : List EC := prmC r.f ++ (prmC r.s ++ [iC r.a, iC r.b, iC r.c, iC r.am, iC r.fe])
def PVv (p : Prm) : EV := .v (.agg (prmC p))
def RVv (r : Rte) : EV := .v (.agg (rteC r))
def Prm.ok (p : Prm) : Prop := p.tx.length = 32 ∧ i64 p.n ∧ i64 p.am ∧ i64 p.k0 ∧ i64 p.k1 ∧ i64 p.dl ∧ i64 p.fe
def Rte.ok (r : Rte) : Prop := r.f.ok ∧ r.s.ok ∧ i64 r.a ∧ i64 r.b ∧ i64 r.c ∧ i64 r.am ∧ i64 r.fe
section
variable {p : Prm} (h : p.tx.length = 32)
include h
theorem prmC_len : (prmC p).length = 38 := by simp [prmC, hc_len, h]
theorem pm_take : (prmC p).take 38 = prmC p := List.tkL (by rw [prmC_len h]; omega)
theorem pm_d34 : ((prmC p).drop 34).take 2 = [iC p.k0, iC p.k1] := by
 have e : (hc p.tx).length = 32 := by rw [hc_len, h]
 unfold prmC
 rw [List.drop_append, List.drop_of_length_le (by omega), e]
 rfl
theorem pm_34 : (prmC p)[34]? = some (iC p.k0) := by
 have e : (hc p.tx).length = 32 := by rw [hc_len, h]
 unfold prmC
 rw [List.getElem?_append_right (by omega), e]; rfl
theorem pm_35 : (prmC p)[35]? = some (iC p.k1) := by
 have e : (hc p.tx).length = 32 := by rw [hc_len, h]
 unfold prmC
 rw [List.getElem?_append_right (by omega), e]; rfl
end
theorem rt_t38 {r : Rte} (hf : r.f.tx.length = 32) : (rteC r).take 38 = prmC r.f := by unfold rteC; rw [← prmC_len hf, List.take_left]
theorem rt_d38 {r : Rte} (hf : r.f.tx.length = 32) : (rteC r).drop 38 = prmC r.s ++ [iC r.a, iC r.b, iC r.c, iC r.am, iC r.fe] := by unfold rteC; rw [← prmC_len hf, List.drop_left]
theorem rt_k1 {r : Rte} (hf : r.f.tx.length = 32) : ((rteC r).drop 34).take 2 = [iC r.f.k0, iC r.f.k1] := by
 unfold rteC
 rw [List.drop_append_of_le_length (by rw [prmC_len hf]; omega), List.take_append_of_le_length (by rw [List.length_drop, prmC_len hf]; omega), pm_d34 hf]
section
variable {r : Rte} (hf : r.f.tx.length = 32) (hs : r.s.tx.length = 32)
include hf hs
theorem rteC_len : (rteC r).length = 81 := by simp [rteC, prmC_len hf, prmC_len hs]
theorem rt_take : (rteC r).take 81 = rteC r := List.tkL (by rw [rteC_len hf hs]; omega)
theorem rt_s38 : ((rteC r).drop 38).take 38 = prmC r.s := by rw [rt_d38 hf, ← prmC_len hs, List.take_left]
theorem rt_d76 : (rteC r).drop 76 = [iC r.a, iC r.b, iC r.c, iC r.am, iC r.fe] := by
 rw [show 76 = 38 + 38 from rfl, ← List.drop_drop, rt_d38 hf, ← prmC_len hs, List.drop_left]
theorem rt_k2 : ((rteC r).drop 72).take 2 = [iC r.s.k0, iC r.s.k1] := by
 rw [show 72 = 38 + 34 from rfl, ← List.drop_drop, rt_d38 hf, List.drop_append_of_le_length (by rw [prmC_len hs]; omega), List.take_append_of_le_length (by rw [List.length_drop, prmC_len hs]; omega), pm_d34 hs]
theorem rt_at (i : Nat) : (rteC r)[76 + i]? = [iC r.a, iC r.b, iC r.c, iC r.am, iC r.fe][i]? := by
 rw [← List.getElem?_drop, rt_d76 hf hs]
theorem rt_76 : (rteC r)[76]? = some (iC r.a) := rt_at hf hs 0
theorem rt_77 : (rteC r)[77]? = some (iC r.b) := rt_at hf hs 1
theorem rt_78 : (rteC r)[78]? = some (iC r.c) := rt_at hf hs 2
theorem rt_79 : (rteC r)[79]? = some (iC r.am) := rt_at hf hs 3
theorem rt_80 : (rteC r)[80]? = some (iC r.fe) := rt_at hf hs 4
end
theorem conAll_mp (H : Nat → Option EO) (ids : List Nat) : ∀ l : List FV, conAll H ids (l.map EC.fz) = some (l.map EC.fz)
 | [] => rfl
 | a :: r => by simp only [List.map_cons, conAll, conC, conAll_mp H ids r]; rfl
theorem strAll_mp (ids : List Nat) : ∀ l : List FV, strAll ids (l.map EC.fz) = some (l.map EC.fz)
 | [] => rfl
 | a :: r => by simp only [List.map_cons, strAll, strC, strAll_mp ids r]; rfl
theorem frzAll_mp : ∀ l : List FV, frzAll (l.map EC.fz) = some l
 | [] => rfl
 | a :: r => by simp only [List.map_cons, frzAll, frz, frzAll_mp r]; rfl
theorem refs_mp : ∀ l : List FV, (l.map EC.fz).flatMap refsC = []
 | [] => rfl
 | a :: r => by simp only [List.map_cons, List.flatMap_cons, refs_mp r]; rfl
theorem fz_mp (ids : List Nat) : ∀ l : List FV, (l.map EC.fz).flatMap (fzC ids) = []
 | [] => rfl
 | a :: r => by simp only [List.map_cons, List.flatMap_cons, fz_mp ids r]; rfl
theorem ren_mp (g : Nat → Nat) : ∀ l : List FV, (l.map EC.fz).map (renC g) = l.map EC.fz
 | [] => rfl
 | a :: r => by simp only [List.map_cons, ren_mp g r]; rfl
def iF (n : Int) : FV := .lit (.int .i64 n)
def prmF (p : Prm) : List FV := hf p.tx ++ [iF p.n, iF p.am, iF p.k0, iF p.k1, iF p.dl, iF p.fe]
def rteF (r : Rte) : List FV := prmF r.f ++ (prmF r.s ++ [iF r.a, iF r.b, iF r.c, iF r.am, iF r.fe])
theorem prmF_fz (p : Prm) : (prmF p).map EC.fz = prmC p := by simp [prmF, prmC, iF, iC]
theorem rteF_fz (r : Rte) : (rteF r).map EC.fz = rteC r := by simp [rteF, rteC, prmF_fz, iF, iC]
@[simp] theorem conAll_prmC (H : Nat → Option EO) (ids : List Nat) (p : Prm) : conAll H ids (prmC p) = some (prmC p) := by rw [← prmF_fz]; exact conAll_mp H ids _
@[simp] theorem strAll_prmC (ids : List Nat) (p : Prm) : strAll ids (prmC p) = some (prmC p) := by rw [← prmF_fz]; exact strAll_mp ids _
@[simp] theorem frzAll_prmC (p : Prm) : frzAll (prmC p) = some (prmF p) := by rw [← prmF_fz]; exact frzAll_mp _
@[simp] theorem refs_prmC (p : Prm) : (prmC p).flatMap refsC = [] := by rw [← prmF_fz]; exact refs_mp _
@[simp] theorem fz_prmC (ids : List Nat) (p : Prm) : (prmC p).flatMap (fzC ids) = [] := by rw [← prmF_fz]; exact fz_mp ids _
@[simp] theorem ren_prmC (g : Nat → Nat) (p : Prm) : (prmC p).map (renC g) = prmC p := by rw [← prmF_fz]; exact ren_mp g _
@[simp] theorem conAll_rteC (H : Nat → Option EO) (ids : List Nat) (p : Rte) : conAll H ids (rteC p) = some (rteC p) := by rw [← rteF_fz]; exact conAll_mp H ids _
@[simp] theorem strAll_rteC (ids : List Nat) (p : Rte) : strAll ids (rteC p) = some (rteC p) := by rw [← rteF_fz]; exact strAll_mp ids _
@[simp] theorem frzAll_rteC (p : Rte) : frzAll (rteC p) = some (rteF p) := by rw [← rteF_fz]; exact frzAll_mp _
@[simp] theorem refs_rteC (p : Rte) : (rteC p).flatMap refsC = [] := by rw [← rteF_fz]; exact refs_mp _
@[simp] theorem fz_rteC (ids : List Nat) (p : Rte) : (rteC p).flatMap (fzC ids) = [] := by rw [← rteF_fz]; exact fz_mp ids _
@[simp] theorem ren_rteC (g : Nat → Nat) (p : Rte) : (rteC p).map (renC g) = rteC p := by rw [← rteF_fz]; exact ren_mp g _
theorem idx_of {l : List EC} {k : Nat} {c : EC} (e : l[k]? = some c) (h : k < l.length) : l[k]'h = c := by
 rw [List.getElem?_eq_getElem h] at e
 exact Option.some.inj e
theorem Vparty_ok (n : Int) : ECalls Tryz.prog 49 [I .i64 n] [] fun y H' => H' = [] ∧ y = .lit (.bool (decide (0 ≤ n ∧ n < 16))) := by
 refine ecalls k_Vparty ?_
 simp [c_Vparty, I]
 by_cases h : 0 ≤ n
 ·simp [h]
  exact fin0
 ·simp [h]
  exact fin0
def ofV (p : Prm) (a b : Int) : Bool := decide ((p.k0 = a ∧ p.k1 = b) ∨ (p.k0 = b ∧ p.k1 = a))
theorem Vof_ok (p : Prm) (a b : Int) (hp : p.tx.length = 32) : ECalls Tryz.prog 50 [PVv p, I .i64 a, I .i64 b] [] fun y H' => H' = [] ∧ y = .lit (.bool (ofV p a b)) := by
 have h1 := prmC_len hp
 have h2 := pm_take hp
 have h3 := pm_d34 hp
 refine ecalls k_Vof ?_
 simp [c_Vof, I, PVv, h1, h2, h3, iC]
 by_cases c1 : p.k0 = a ∧ p.k1 = b
 ·have hv : ofV p a b = true := decide_eq_true (.inl c1)
  rw [hv]
  simp [c1.1, c1.2]
  exact fin0
 ·have c1' : ¬ p.k0 = a ∨ ¬ p.k1 = b := by omega
  have hv : ofV p a b = (decide (p.k0 = b) && decide (p.k1 = a)) := by
   unfold ofV
   by_cases c2 : p.k0 = b ∧ p.k1 = a
   ·rw [decide_eq_true (.inr c2), decide_eq_true c2.1, decide_eq_true c2.2]; rfl
   ·rw [decide_eq_false (by omega)]
    by_cases c3 : p.k0 = b
    ·rw [decide_eq_true c3, decide_eq_false (fun h => c2 ⟨c3, h⟩)]; rfl
    ·rw [decide_eq_false c3]; rfl
  rw [hv]
  simp [c1', h1, h2, h3, iC]
  refine alt (fun h => absurd h c1) (fun _ => ?_)
  simp
  exact fin [] (by decide) rfl rfl rfl ⟨rfl, by simp⟩
def yl1ph : UL | _ => [xG 24 27 23 true (.bin .leq (.t 26) (xK 64)), xR 25 28 23 27, xM 26 2 28]
def yl1pi : UL | _ => xG 18 21 18 true (.bin .lss (.t 20) (xK 8)) :: xR 19 22 18 21 :: xM 20 23 22 :: yF 21 24 23 true 34 1 :: yL 22 25 23 true 24 :: xG 23 26 23 true (.len (.t 25)) :: hid yl1ph
def yl1pj : UL | _ => yL 12 15 13 true 14 :: xG 13 16 13 true (.bin .geq (.t 15) (xK 0)) :: xR 14 17 13 16 :: xM 15 18 17 :: yF 16 19 18 true 33 1 :: yL 17 20 18 true 19 :: hid yl1pi
def yl1pk : UL | _ => yF 6 9 7 true 32 8 :: yL 7 10 7 true 9 :: xG 8 11 7 true (.bin .lss (.t 10) (xK 64)) :: xR 9 12 7 11 :: xM 10 13 12 :: yF 11 14 13 true 33 1 :: hid yl1pj
def yl1pl : UL | _ => xF 0 3 0 1 :: xF 1 4 32 3 :: xL 2 5 4 :: xc 3 6 .geq 5 0 :: xM 4 7 6 :: yF 5 8 7 true 0 1 :: hid yl1pk
def yb1pm : UB | _ => .seq (reg0 [xW 0 1 146 0, xQ 1 2 (.mov (.k (.bool false)))] 2) (.seq (reg0 (hid yl1pl) 27) .ret)
attribute [simp] yl1ph yl1pi yl1pj yl1pk yl1pl yb1pm
def c_InRight : EB × List QOp × Nat := ((hid yb1pm), [(.mov (.t 2))], 29)
theorem k_InRight : cfun Tryz.prog 114 = some c_InRight := by kernel_rfl
def yl1po : UL | _ => [xD 0 3 35 1, xO 1 4 (.call 114 [.t 3]), xQ 2 5 (.un .not (.t 4)), xM 3 2 5]
def yb1pp : UB | _ => .seq (reg0 [xW 0 1 146 0, xQ 1 2 (.mov (.k (.bool false)))] 2) (.seq (reg0 (hid yl1po) 4) .ret)
attribute [simp] yl1po yb1pp
def c_TxC1 : EB × List QOp × Nat := ((hid yb1pp), [(.mov (.t 2))], 6)
theorem k_TxC1 : cfun Tryz.prog 113 = some c_TxC1 := by kernel_rfl
def yl1pu : UL | _ => [xM 0 11 1, xM 1 12 0, xM 2 13 5, xI 3 14 35 12 13, xD 4 15 35 14, xO 5 16 (.clo (.t 11) [.t 15])]
def yb1pz : UB | _ => .seq (reg0 [xb 0 9 .lss 8 7] 1) (.seq (.cond (.t 9) .skip (.exit 0)) (.seq (.block 1 (.seq (reg0 [xM 0 10 8, xM 1 5 10] 2) (.seq (reg0 (hid yl1pu) 6) (.cond (.t 16) (.seq (reg0 [xM 0 17 5, xM 1 4 17] 2) .ret) .skip)))) (reg0 [xc 0 18 .add 8 1, xM 1 8 18] 2)))
def yb1q1 : UB | _ => .seq (.seq (reg0 [xM 0 6 0, xE 1 7 6, xC 2 8 0] 3) (.block 0 (.loop (hid yb1pz)))) (.seq (reg0 [xQ 0 4 (.mov (.k (.int .i64 (-1))))] 1) .ret)
def yb1q2 : UB | _ => .seq (reg0 [xC 0 4 0] 1) (hid yb1q1)
attribute [simp] yl1pu yb1pz yb1q1 yb1q2
def c_IdxIn : EB × List QOp × Nat := ((hid yb1q2), [(.mov (.t 4))], 19)
theorem k_IdxIn : cfun Tryz.prog 168 = some c_IdxIn := by kernel_rfl
def yl1q4 : UL | _ => [xM 0 5 0, xM 1 6 1, xO 2 7 (.call 168 [.t 5, .t 6]), xc 3 8 .geq 7 0, xM 4 4 8]
def yb1q5 : UB | _ => .seq (reg0 [xQ 0 4 (.mov (.k (.bool false)))] 1) (.seq (reg0 (hid yl1q4) 5) .ret)
attribute [simp] yl1q4 yb1q5
def c_ConIn : EB × List QOp × Nat := ((hid yb1q5), [(.mov (.t 4))], 9)
theorem k_ConIn : cfun Tryz.prog 116 = some c_ConIn := by kernel_rfl
def yl1qa : UL | _ => [xG 18 31 19 false (.pick (.t 22) (.t 30) (.k (.bool false))), xP 19 32 19 31]
def yl1qb : UL | _ => yM 12 25 22 true 3 :: xG 13 26 22 true (.bin .sub (.t 25) (xK 1)) :: xG 14 27 22 true (.isl 1 (.t 24) (.t 26)) :: yL 15 28 22 true 27 :: yM 16 29 22 true 4 :: xG 17 30 22 true (.bin .geq (.t 28) (.t 29)) :: hid yl1qa
def yl1qc : UL | _ => xM 6 19 18 :: yM 7 20 19 false 3 :: xG 8 21 19 false (.bin .gtr (.t 20) (xK 0)) :: yM 9 22 19 false 21 :: yF 10 23 22 true 0 1 :: yL 11 24 22 true 23 :: hid yl1qb
def yl1qd : UL | _ => xM 0 13 4 :: xc 1 14 .lss 13 0 :: xM 2 15 14 :: yM 3 16 15 false 4 :: xG 4 17 15 false (.bin .geq (.t 16) (xK 16)) :: xP 5 18 15 17 :: hid yl1qc
def yb1qh : UB | _ => .seq (.block 1 (.seq (reg0 [xM 0 10 8, xI 1 11 1 6 8, xL 2 12 11, xM 3 3 10, xM 4 4 12] 5) (.seq (reg0 (hid yl1qd) 20) (.cond (.t 32) (.seq (reg0 [xQ 0 2 (.mov (.k (.bool false)))] 1) .ret) .skip)))) (reg0 [xc 0 33 .add 8 1, xM 1 8 33] 2)
def yb1qi : UB | _ => .seq (reg0 [xb 0 9 .lss 8 7] 1) (.seq (.cond (.t 9) .skip (.exit 0)) (hid yb1qh))
def yl1qj : UL | _ => [xM 24 2 57]
def yl1qk : UL | _ => xR 18 52 48 51 :: xM 19 53 52 :: yF 20 54 53 true 34 1 :: yL 21 55 53 true 54 :: xG 22 56 53 true (.bin .leq (.t 55) (xK 65536)) :: xR 23 57 53 56 :: hid yl1qj
def yl1ql : UL | _ => xG 12 46 43 true (.bin .leq (.t 45) (xK 1099511627776)) :: xR 13 47 43 46 :: xM 14 48 47 :: yF 15 49 48 true 34 1 :: yL 16 50 48 true 49 :: xG 17 51 48 true (.bin .geq (.t 50) (xK 0)) :: hid yl1qk
def yl1qm : UL | _ => yL 6 40 38 true 39 :: xG 7 41 38 true (.bin .geq (.t 40) (xK 0)) :: xR 8 42 38 41 :: xM 9 43 42 :: yF 10 44 43 true 33 1 :: yL 11 45 43 true 44 :: hid yl1ql
def yl1qn : UL | _ => xF 0 34 0 1 :: xL 1 35 34 :: xE 2 36 35 :: xc 3 37 .geq 36 1 :: xM 4 38 37 :: yF 5 39 38 true 33 1 :: hid yl1qm
def yb1qo : UB | _ => .seq (.seq (reg0 [xF 0 5 0 1, xL 1 6 5, xE 2 7 6, xC 3 8 0] 4) (.block 0 (.loop (hid yb1qi)))) (.seq (reg0 (hid yl1qn) 25) .ret)
def yb1qp : UB | _ => .seq (reg0 [xW 0 1 196 0, xQ 1 2 (.mov (.k (.bool false)))] 2) (hid yb1qo)
attribute [simp] yl1qa yl1qb yl1qc yl1qd yb1qh yb1qi yl1qj yl1qk yl1ql yl1qm yl1qn yb1qo yb1qp
def c_Bmay : EB × List QOp × Nat := ((hid yb1qp), [(.mov (.t 2))], 58)
theorem k_Bmay : cfun Tryz.prog 198 = some c_Bmay := by kernel_rfl
def yl1qr : UL | _ => [xD 0 3 35 1, xO 1 4 (.call 198 [.t 3]), xQ 2 5 (.un .not (.t 4)), xM 3 2 5]
def yb1qs : UB | _ => .seq (reg0 [xW 0 1 196 0, xQ 1 2 (.mov (.k (.bool false)))] 2) (.seq (reg0 (hid yl1qr) 4) .ret)
attribute [simp] yl1qr yb1qs
def c_CndC1 : EB × List QOp × Nat := ((hid yb1qs), [(.mov (.t 2))], 6)
theorem k_CndC1 : cfun Tryz.prog 197 = some c_CndC1 := by kernel_rfl
def yl1qx : UL | _ => [xM 0 11 1, xM 1 12 0, xM 2 13 5, xI 3 14 35 12 13, xD 4 15 35 14, xO 5 16 (.clo (.t 11) [.t 15])]
def yb1r2 : UB | _ => .seq (reg0 [xb 0 9 .lss 8 7] 1) (.seq (.cond (.t 9) .skip (.exit 0)) (.seq (.block 1 (.seq (reg0 [xM 0 10 8, xM 1 5 10] 2) (.seq (reg0 (hid yl1qx) 6) (.cond (.t 16) (.seq (reg0 [xM 0 17 5, xM 1 4 17] 2) .ret) .skip)))) (reg0 [xc 0 18 .add 8 1, xM 1 8 18] 2)))
def yb1r4 : UB | _ => .seq (.seq (reg0 [xM 0 6 0, xE 1 7 6, xC 2 8 0] 3) (.block 0 (.loop (hid yb1r2)))) (.seq (reg0 [xQ 0 4 (.mov (.k (.int .i64 (-1))))] 1) .ret)
def yb1r5 : UB | _ => .seq (reg0 [xC 0 4 0] 1) (hid yb1r4)
attribute [simp] yl1qx yb1r2 yb1r4 yb1r5
def c_IdxBr : EB × List QOp × Nat := ((hid yb1r5), [(.mov (.t 4))], 19)
theorem k_IdxBr : cfun Tryz.prog 149 = some c_IdxBr := by kernel_rfl
def yl1r7 : UL | _ => [xM 0 5 0, xM 1 6 1, xO 2 7 (.call 149 [.t 5, .t 6]), xc 3 8 .geq 7 0, xM 4 4 8]
def yb1r8 : UB | _ => .seq (reg0 [xQ 0 4 (.mov (.k (.bool false)))] 1) (.seq (reg0 (hid yl1r7) 5) .ret)
attribute [simp] yl1r7 yb1r8
def c_ConBr : EB × List QOp × Nat := ((hid yb1r8), [(.mov (.t 4))], 9)
theorem k_ConBr : cfun Tryz.prog 83 = some c_ConBr := by kernel_rfl
def yl1rb : UL | _ => [yL 12 16 14 false 15, yM 13 17 14 false 3, ⟨14, (some 18), (some (14, false)), (.call 83 [.t 16, .t 17]), []⟩, xP 15 19 14 18]
def yl1rc : UL | _ => yL 6 10 8 false 9 :: xG 7 11 8 false (.len (.t 10)) :: xG 8 12 8 false (.bin .gtr (.t 11) (xK 8)) :: xP 9 13 8 12 :: xM 10 14 13 :: yF 11 15 14 false 0 1 :: hid yl1rb
def yl1rd : UL | _ => xF 0 4 0 1 :: xL 1 5 4 :: xE 2 6 5 :: xc 3 7 .lss 6 1 :: xM 4 8 7 :: yF 5 9 8 false 0 1 :: hid yl1rc
def yb1ri : UB | _ => .seq (reg0 [xW 0 1 109 0, xQ 1 2 (.mov (.k .nilIface))] 2) (.seq (reg0 [xQ 0 3 (.mov (.k (.func (.func 197) #[] #[])))] 1) (.seq (.seq (reg0 (hid yl1rd) 16) (.cond (.t 19) (.seq (reg0 [xQ 0 20 (.mki 132 (xK 1)), xM 1 2 20] 2) .ret) .skip)) (.seq (reg0 [xQ 0 2 (.mov (.k .nilIface))] 1) .ret)))
attribute [simp] yl1rb yl1rc yl1rd yb1ri
def c_CCheck : EB × List QOp × Nat := ((hid yb1ri), [(.mov (.t 2))], 21)
theorem k_CCheck : cfun Tryz.prog 169 = some c_CCheck := by kernel_rfl
def yl1rm : UL | _ => [xF 0 9 0 1, xL 1 10 9, xc 2 11 .gtr 10 1125899906842624, xM 3 8 11]
def yl1rq : UL | _ => [xF 0 13 1 1, xD 1 14 1 13, xO 2 15 (.call 169 [.t 14]), xM 3 2 15]
def yb1rr : UB | _ => .seq (.block 0 (.seq (reg0 [xF 0 4 0 1, xL 1 5 4, xc 2 6 .lss 5 10, xM 3 3 6] 4) (.cond (.t 3) (.seq (reg0 [xQ 0 7 (.mki 132 (xK 27)), xM 1 2 7] 2) .ret) (.seq (reg0 (hid yl1rm) 4) (.cond (.t 8) (.seq (reg0 [xQ 0 12 (.mki 132 (xK 5)), xM 1 2 12] 2) .ret) .skip))))) (.seq (reg0 (hid yl1rq) 4) .ret)
def yb1rs : UB | _ => .seq (reg0 [xW 0 1 112 0, xQ 1 2 (.mov (.k .nilIface))] 2) (hid yb1rr)
attribute [simp] yl1rm yl1rq yb1rr yb1rs
def c_OutChk : EB × List QOp × Nat := ((hid yb1rs), [(.mov (.t 2))], 16)
theorem k_OutChk : cfun Tryz.prog 117 = some c_OutChk := by kernel_rfl
def yl1ru : UL | _ => [xM 6 2 8]
def yl1rv : UL | _ => xM 0 3 0 :: xc 1 4 .geq 3 1 :: xM 2 5 4 :: yM 3 6 5 true 0 :: xG 4 7 5 true (.bin .leq (.t 6) (xK 64)) :: xR 5 8 5 7 :: hid yl1ru
def yb1rw : UB | _ => .seq (reg0 [xQ 0 2 (.mov (.k (.bool false)))] 1) (.seq (reg0 (hid yl1rv) 7) .ret)
attribute [simp] yl1ru yl1rv yb1rw
def c_TxSome : EB × List QOp × Nat := ((hid yb1rw), [(.mov (.t 2))], 9)
theorem k_TxSome : cfun Tryz.prog 115 = some c_TxSome := by kernel_rfl
structure Bra where
 keys : List Int
 lock : List UInt8
 af : Int
 ol : Int
structure Inp where
 tx : List UInt8
 n : Int
 br : Int
 sec : List UInt8
structure Outp where
 am : Int
 cs : List Bra
structure Txn where
 lk : Int
 ins : List Inp
 outs : List Outp
def braF (b : Bra) : List FV := .sl 1 (intv b.keys) :: (hf b.lock ++ [iF b.af, iF b.ol])
def inpF (x : Inp) : List FV := hf x.tx ++ [iF x.n, iF x.br, .sl 1 (bsv x.sec)]
def brav (l : List Bra) : List (List FV) := l.map braF
def outF (o : Outp) : List FV := [iF o.am, .sl 35 (brav o.cs)]
def inpv (l : List Inp) : List (List FV) := l.map inpF
def outv (l : List Outp) : List (List FV) := l.map outF
def braC (b : Bra) : List EC := .fz (.sl 1 (intv b.keys)) :: (hc b.lock ++ [iC b.af, iC b.ol])
def inpC (x : Inp) : List EC := hc x.tx ++ [iC x.n, iC x.br, .fz (.sl 1 (bsv x.sec))]
def outC (o : Outp) : List EC := [iC o.am, .fz (.sl 35 (brav o.cs))]
def txC (t : Txn) : List EC := [iC t.lk, .fz (.sl 35 (inpv t.ins)), .fz (.sl 2 (outv t.outs))]
def TXv (t : Txn) : EV := .v (.agg (txC t))
def CNv (l : List Bra) : EV := .v (.agg [.fz (.sl 35 (brav l))])
def Bra.ok (b : Bra) : Prop := (∀ k ∈ b.keys, i64 k) ∧ b.lock.length = 32 ∧ i64 b.af ∧ i64 b.ol ∧ b.keys.length ≤ 100000000
def Inp.ok (x : Inp) : Prop := x.tx.length = 32 ∧ i64 x.n ∧ i64 x.br ∧ x.sec.length ≤ 100000000
def Outp.ok (o : Outp) : Prop := i64 o.am ∧ (∀ b ∈ o.cs, b.ok) ∧ o.cs.length ≤ 100000000
def Txn.ok (t : Txn) : Prop := i64 t.lk ∧ (∀ x ∈ t.ins, x.ok) ∧ (∀ o ∈ t.outs, o.ok) ∧ t.ins.length ≤ 100000000 ∧ t.outs.length ≤ 100000000
theorem braF_fz (b : Bra) : (braF b).map EC.fz = braC b := by simp [braF, braC, iF, iC]
theorem inpF_fz (x : Inp) : (inpF x).map EC.fz = inpC x := by simp [inpF, inpC, iF, iC]
@[simp] theorem brav_len (l : List Bra) : (brav l).length = l.length := by simp [brav]
@[simp] theorem inpv_len (l : List Inp) : (inpv l).length = l.length := by simp [inpv]
@[simp] theorem outv_len (l : List Outp) : (outv l).length = l.length := by simp [outv]
theorem brav_get {l : List Bra} {i : Nat} {p : Bra} (h : l[i]? = some p) : (brav l)[i]? = some (braF p) := by simp [brav, h]
theorem inpv_get {l : List Inp} {i : Nat} {p : Inp} (h : l[i]? = some p) : (inpv l)[i]? = some (inpF p) := by simp [inpv, h]
theorem outv_get {l : List Outp} {i : Nat} {p : Outp} (h : l[i]? = some p) : (outv l)[i]? = some (outF p) := by simp [outv, h]
@[simp] theorem conAll_braC (H : Nat → Option EO) (ids : List Nat) (p : Bra) : conAll H ids (braC p) = some (braC p) := by rw [← braF_fz]; exact conAll_mp H ids _
@[simp] theorem strAll_braC (ids : List Nat) (p : Bra) : strAll ids (braC p) = some (braC p) := by rw [← braF_fz]; exact strAll_mp ids _
@[simp] theorem frzAll_braC (p : Bra) : frzAll (braC p) = some (braF p) := by rw [← braF_fz]; exact frzAll_mp _
@[simp] theorem refs_braC (p : Bra) : (braC p).flatMap refsC = [] := by rw [← braF_fz]; exact refs_mp _
@[simp] theorem fz_braC (ids : List Nat) (p : Bra) : (braC p).flatMap (fzC ids) = [] := by rw [← braF_fz]; exact fz_mp ids _
@[simp] theorem ren_braC (g : Nat → Nat) (p : Bra) : (braC p).map (renC g) = braC p := by rw [← braF_fz]; exact ren_mp g _
@[simp] theorem conAll_inpC (H : Nat → Option EO) (ids : List Nat) (p : Inp) : conAll H ids (inpC p) = some (inpC p) := by rw [← inpF_fz]; exact conAll_mp H ids _
@[simp] theorem strAll_inpC (ids : List Nat) (p : Inp) : strAll ids (inpC p) = some (inpC p) := by rw [← inpF_fz]; exact strAll_mp ids _
@[simp] theorem frzAll_inpC (p : Inp) : frzAll (inpC p) = some (inpF p) := by rw [← inpF_fz]; exact frzAll_mp _
@[simp] theorem refs_inpC (p : Inp) : (inpC p).flatMap refsC = [] := by rw [← inpF_fz]; exact refs_mp _
@[simp] theorem fz_inpC (ids : List Nat) (p : Inp) : (inpC p).flatMap (fzC ids) = [] := by rw [← inpF_fz]; exact fz_mp ids _
@[simp] theorem ren_inpC (g : Nat → Nat) (p : Inp) : (inpC p).map (renC g) = inpC p := by rw [← inpF_fz]; exact ren_mp g _
section
variable {b : Bra} (h : b.lock.length = 32)
include h
theorem bc_len : (braC b).length = 35 := by simp [braC, hc_len, h]
theorem bf_len : (braF b).length = 35 := by simp [braF, h]
theorem bc_take : (braC b).take 35 = braC b := List.tkL (by rw [bc_len h]; omega)
theorem bc_lock : ((braC b).drop 1).take 32 = hc b.lock := by
 have e : (hc b.lock).length = 32 := by rw [hc_len, h]
 unfold braC
 rw [List.drop_succ_cons, List.drop_zero, ← e, List.take_left]
theorem bc_33 : (braC b)[33]? = some (iC b.af) := by
 have e : (hc b.lock).length = 32 := by rw [hc_len, h]
 unfold braC
 rw [List.getElem?_cons_succ, List.getElem?_append_right (by omega), e]; rfl
theorem bc_34 : (braC b)[34]? = some (iC b.ol) := by
 have e : (hc b.lock).length = 32 := by rw [hc_len, h]
 unfold braC
 rw [List.getElem?_cons_succ, List.getElem?_append_right (by omega), e]; rfl
end
theorem bc_0 (b : Bra) : (braC b)[0]? = some (.fz (.sl 1 (intv b.keys))) := rfl
section
variable {x : Inp} (h : x.tx.length = 32)
include h
theorem ic_len : (inpC x).length = 35 := by simp [inpC, hc_len, h]
theorem if_len : (inpF x).length = 35 := by simp [inpF, h]
theorem ic_take : (inpC x).take 35 = inpC x := List.tkL (by rw [ic_len h]; omega)
theorem ic_hash : (inpC x).take 32 = hc x.tx := by
 have e : (hc x.tx).length = 32 := by rw [hc_len, h]
 unfold inpC
 rw [← e, List.take_left]
theorem ic_pt : (inpC x).take 33 = hc x.tx ++ [iC x.n] := by
 have e : (hc x.tx).length = 32 := by rw [hc_len, h]
 unfold inpC
 rw [List.take_append, List.tkL (by omega), e]; rfl
theorem ic_at (i : Nat) : (inpC x)[32 + i]? = [iC x.n, iC x.br, .fz (.sl 1 (bsv x.sec))][i]? := by
 have e : (hc x.tx).length = 32 := by rw [hc_len, h]
 unfold inpC
 rw [List.getElem?_append_right (by omega), e, Nat.add_sub_cancel_left]
theorem ic_32 : (inpC x)[32]? = some (iC x.n) := ic_at h 0
theorem ic_33 : (inpC x)[33]? = some (iC x.br) := ic_at h 1
theorem ic_34 : (inpC x)[34]? = some (.fz (.sl 1 (bsv x.sec))) := ic_at h 2
end
def inM (x : Inp) : Bool := decide (0 ≤ x.n ∧ x.n < 64 ∧ 0 ≤ x.br ∧ x.br < 8 ∧ x.sec.length ≤ 64)
def brM (b : Bra) : Bool := keysS (-1) b.keys && decide (1 ≤ b.keys.length ∧ 0 ≤ b.af ∧ b.af ≤ 1099511627776 ∧ 0 ≤ b.ol ∧ b.ol ≤ 65536)
def cnE (l : List Bra) : Nat := if (1 ≤ l.length ∧ l.length ≤ 8) ∧ l.all brM = true then 0 else 1
def ouE (o : Outp) : Nat := if o.am < 10 then 27 else if 1125899906842624 < o.am then 5 else cnE o.cs
theorem InRight_ok (x : Inp) (h : x.ok) : ECalls Tryz.prog 114 [.v (.agg (inpC x))] [] fun y H' => H' = [] ∧ y = .lit (.bool (inM x)) := by
 obtain ⟨h1, _, _, h4⟩ := h
 have l0 := ic_len h1
 have e32 := idx_of (ic_32 h1) (by omega)
 have e33 := idx_of (ic_33 h1) (by omega)
 have e34 := idx_of (ic_34 h1) (by omega)
 refine ecalls k_InRight ?_
 simp [c_InRight, I, l0, e32, e33, e34, iC]
 by_cases c1 : 0 ≤ x.n
 rotate_left
 ·rw [show inM x = false from decide_eq_false (by omega)]
  simp [c1]
  exact fin0
 by_cases c2 : x.n < 64
 rotate_left
 ·rw [show inM x = false from decide_eq_false (by omega)]
  simp [c1, c2, l0, e32, e33, e34, iC]
  exact fin0
 by_cases c3 : 0 ≤ x.br
 rotate_left
 ·rw [show inM x = false from decide_eq_false (by omega)]
  simp [c1, c2, c3, l0, e32, e33, e34, iC]
  exact fin0
 by_cases c4 : x.br < 8
 rotate_left
 ·rw [show inM x = false from decide_eq_false (by omega)]
  simp [c1, c2, c3, c4, l0, e32, e33, e34, iC]
  exact fin0
 have hb : (bsv x.sec).length = x.sec.length := by simp
 have hm : inM x = decide ((x.sec.length : Int) ≤ 64) := by
  unfold inM
  by_cases q : x.sec.length ≤ 64
  ·rw [decide_eq_true ⟨c1, c2, c3, c4, q⟩, decide_eq_true (by omega)]
  ·rw [decide_eq_false (by omega), decide_eq_false (by omega)]
 rw [hm]
 simp [c1, c2, c3, c4, l0, e32, e33, e34, iC]
 exact fin [] (by decide) rfl rfl rfl ⟨rfl, by simp⟩
theorem TxC1_ok (x : Inp) (h : x.ok) : ECalls Tryz.prog 113 [.v (.agg (inpC x))] [] fun y H' => H' = [] ∧ y = .lit (.bool (!inM x)) := by
 have l0 := ic_len h.1
 have t0 := ic_take h.1
 refine ecalls k_TxC1 ?_
 simp [c_TxC1, I, l0, t0]
 refine call0 (InRight_ok x h) (by simp) ?_
 rintro y H' ⟨rfl, rfl⟩
 refine ⟨.inl (by simp), le_ok rfl, ?_⟩
 simp
 exact fin0
theorem TxC1_body : bodyOK Tryz.prog 113 = true := by kernel_rfl
theorem IdxIn_ok (l : List Inp) (hl : ∀ h ∈ l, h.ok) (hn : l.length ≤ 100000000) : ECalls Tryz.prog 168 [.v (.c (.fz (.sl 35 (inpv l)))), .v (.c (.clo 113 []))] [] fun y H' => H' = [] ∧ ((l.all inM = true ∧ y = I .i64 (-1)) ∨ (l.all inM = false ∧ ∃ i : Nat, y = I .i64 i)) := by
 obtain ⟨B, hB⟩ : ∃ B, l.all inM = B := ⟨_, rfl⟩
 rw [hB]
 refine ecalls k_IdxIn ?_
 simp [c_IdxIn, I]
 refine eloop (α := Nat) (fun i => i ≤ l.length ∧ ∀ (k : Nat) (x : Inp), k < i → l[k]? = some x → inM x = true) (fun i => l.length - i)
  (fun i => [.v (.c (.fz (.sl 35 (inpv l)))), .v (.c (.clo 113 [])), .any, .any, .any, .any, .any, I .i64 l.length, I .i64 i, .any, .any, .any, .any, .any, .any, .any, .any, .any, .any]) (fun _ => []) 0 []
  ⟨Nat.zero_le _, fun k x h => by omega⟩ (by simp [I]) (by simp) (by simp) (by simp) (by simp) ?_
 rintro i ⟨hi, hlo⟩
 simp [I]
 refine alt (fun hlt => ?_) (fun hlt => ?_)
 ·have hln : i < l.length := by omega
  obtain ⟨p, hc⟩ : ∃ p, l[i]? = some p := ⟨l[i], by simp [hln]⟩
  have hge : (inpv l)[i]'(by simp [hln]) = inpF p := gE (inpv_get hc)
  have w4 := wS (i := i) (by omega)
  have hpo := hl p (List.mgE hc)
  have l0 := ic_len hpo.1
  have l1 := if_len hpo.1
  have t0 := ic_take hpo.1
  simp [hln, hge, inpF_fz, l0, l1, t0]
  refine ⟨TxC1_body, ?_⟩
  refine call0 (TxC1_ok p hpo) (by simp) ?_
  rintro y H' ⟨rfl, rfl⟩
  refine ⟨.inl (by simp), le_ok rfl, ?_⟩
  cases hP : inM p
  ·simp
   exact fin [] (by decide) rfl rfl rfl ⟨rfl, .inr ⟨by rw [← hB, List.all_eq_false]; exact ⟨p, List.mgE hc, by simp [hP]⟩, i, rfl⟩⟩
  ·simp [w4, -Int.natCast_add]
   refine round (i + 1) [] ⟨by omega, ?_⟩ (by omega) (by simp [I]) (by simp) (by simp) (by simp) (by simp)
   intro k q hk hq
   rcases Nat.lt_or_ge k i with h1 | h1
   ·exact hlo k q h1 hq
   ·obtain rfl : k = i := by omega
    rw [hc] at hq
    obtain rfl := Option.some.inj hq
    exact hP
 ·simp
  refine fin [] (by decide) rfl rfl rfl ⟨rfl, .inl ⟨?_, rfl⟩⟩
  rw [← hB, List.all_eq_true]
  intro x hx
  obtain ⟨k, hk⟩ := List.getElem?_of_mem hx
  exact hlo k x (by have := lt_len hk; omega) hk
theorem ConIn_ok (l : List Inp) (hl : ∀ h ∈ l, h.ok) (hn : l.length ≤ 100000000) : ECalls Tryz.prog 116 [.v (.c (.fz (.sl 35 (inpv l)))), .v (.c (.clo 113 []))] [] fun y H' => H' = [] ∧ y = .lit (.bool (!l.all inM)) := by
 refine ecalls k_ConIn ?_
 simp [c_ConIn]
 refine call0 (IdxIn_ok l hl hn) (by simp) ?_
 rintro y H' ⟨rfl, h⟩
 rcases h with ⟨h, rfl⟩ | ⟨h, i, rfl⟩
 ·refine ⟨.inl (by simp [I]), le_ok rfl, ?_⟩
  rw [h]
  simp [I]
  exact fin0
 ·refine ⟨.inl (by simp [I]), le_ok rfl, ?_⟩
  have n0 : (0 : Int) ≤ (i : Int) := by omega
  rw [h]
  simp [I, n0]
  exact fin0
theorem Bmay_ok (b : Bra) (h : b.ok) : ECalls Tryz.prog 198 [.v (.agg (braC b))] [] fun y H' => H' = [] ∧ y = .lit (.bool (brM b)) := by
 obtain ⟨hk, h1, ha, ho, h4⟩ := h
 have l0 := bc_len h1
 have e0 := idx_of (bc_0 b) (by omega)
 have e33 := idx_of (bc_33 h1) (by omega)
 have e34 := idx_of (bc_34 h1) (by omega)
 refine ecalls k_Bmay ?_
 simp [c_Bmay, I, l0, e0, iC]
 refine eloop (α := Nat × Int) (fun a => a.1 ≤ b.keys.length ∧ keysS (-1) b.keys = keysS a.2 (b.keys.drop a.1) ∧ (a.1 = 0 → a.2 = -1) ∧ (0 < a.1 → b.keys[a.1 - 1]? = some a.2)) (fun a => b.keys.length - a.1)
  (fun a => [xA, Ptr 0, xA, xA, xA, xA, IL b.keys, I .i64 b.keys.length, I .i64 a.1, xA, xA, xA, xA, xA, xA, xA, xA, xA, xA, xA, xA, xA, xA, xA, xA, xA, xA, xA, xA, xA, xA, xA, xA, xA, xA, xA, xA, xA, xA, xA, xA, xA, xA, xA, xA, xA, xA, xA, xA, xA, xA, xA, xA, xA, xA, xA, xA, .any]) (fun _ => [some (.box 196 (braC b))]) (0, -1) [0]
  ⟨by simp, by simp, by simp, by simp⟩ (by simp [Ptr, I, IL]) (by simp) (by simp) (by simp) (by simp) ?_
 rintro ⟨i, last⟩ ⟨hi1, hi2, hi3, hi4⟩
 dsimp only at hi1 hi2 hi3 hi4
 simp [Ptr, I, IL]
 refine alt (fun hlt => ?_) (fun hlt => ?_)
 ·have hln : i < b.keys.length := by omega
  obtain ⟨k, hc⟩ : ∃ k, b.keys[i]? = some k := ⟨b.keys[i], by simp [hln]⟩
  have ga : ∀ h2, (intv b.keys)[i]'h2 = [.lit (.int .i64 k)] := fun h2 => by rw [intv_at hln, hc]; rfl
  rw [drop_cons hc] at hi2
  have w1 := wS (i := i) (by omega)
  have hbad : ¬ (last < k ∧ k < 16) → brM b = false := fun q => by simp only [brM, hi2, keysS, decide_eq_false q, Bool.false_and]
  have hgood : last < k → k < 16 → keysS (-1) b.keys = keysS k (b.keys.drop (i + 1)) := fun q1 q2 => by rw [hi2, keysS, decide_eq_true ⟨q1, q2⟩, Bool.true_and]
  have hm : -1 ≤ last ∨ brM b = false ∨ True := by right; right; trivial
  simp [hln, ga]
  by_cases c1 : k < 0
  ·have hv : brM b = false := by
    by_cases q : last < k
    ·rcases Nat.eq_zero_or_pos i with e | e
     ·have := hi3 e; omega
     ·exact by
       have hneg : last < 0 := by omega
       have key : ∀ (l : List Int) (o : Int) (j : Nat) (z : Int), keysS o l = true → l[j]? = some z → o < z := by
        intro l
        induction l with
        | nil => intro o j z _ h; simp at h
        | cons a r ih =>
         intro o j z hh hz
         simp only [keysS, Bool.and_eq_true, decide_eq_true_eq] at hh
         cases j with
         | zero => simp at hz; omega
         | succ j => have := ih a j z hh.2 (by simpa using hz); omega
       by_cases hks : keysS (-1) b.keys = true
       ·have := key b.keys (-1) (i - 1) last hks (hi4 e); omega
       ·simp only [brM, Bool.not_eq_true] at hks ⊢
        rw [hks]; rfl
    ·exact hbad (by omega)
   have c1' : ¬ 0 ≤ k := by omega
   rw [hv]
   simp [c1, c1']
   exact fin0
  have c1' : 0 ≤ k := by omega
  by_cases c2 : 16 ≤ k
  ·have c2' : ¬ k < 16 := by omega
   rw [hbad (by omega)]
   simp [c1, c1', c2, c2']
   exact fin0
  have c2' : k < 16 := by omega
  rcases Nat.eq_zero_or_pos i with e | e
  ·subst e
   have hl := hi3 rfl
   simp [c1, c1', c2, c2']
   have w1' : IntKind.i64.wrap 1 = 1 := by decide +kernel
   try simp [w1']
   exact round (1, k) [0] ⟨by dsimp only; omega, hgood (by omega) (by omega), by simp, by simpa using hc⟩ (by dsimp only; omega) (by simp [Ptr, I, IL]) (by simp) (by simp) (by simp) (by simp)
  ·have e' : (0 : Int) < (i : Int) := by omega
   have hq := hi4 e
   have hti : i - 1 < b.keys.length := by omega
   have gb : ∀ h2, (intv b.keys)[i - 1]'h2 = [.lit (.int .i64 last)] := fun h2 => by rw [intv_at hti, hq]; rfl
   have w3 : IntKind.i64.wrap ((i : Int) - 1) = ((i - 1 : Nat) : Int) := by rw [wrap_i64 (by omega) (by omega)]; omega
   have n1 : ¬ (((i - 1 : Nat) : Int) < 0) := by omega
   obtain ⟨p, hp⟩ : ∃ p, i - 1 = p := ⟨_, rfl⟩
   rw [hp] at hti gb w3 n1
   simp [c1, c1', c2, c2', e, e', w3, gb, hti, n1, hln, l0, e0]
   by_cases c3 : k ≤ last
   ·have c3' : ¬ last < k := by omega
    rw [hbad (by omega)]
    simp [c3, c3']
    exact fin0
   ·have c3' : last < k := by omega
    simp [c3, c3', w1, -Int.natCast_add]
    exact round (i + 1, k) [0] ⟨by dsimp only; omega, hgood (by omega) (by omega), by simp, by simpa using hc⟩ (by dsimp only; omega) (by simp [Ptr, I, IL]) (by simp) (by simp) (by simp) (by simp)
 ·have hd : b.keys.drop i = [] := by rw [List.drop_eq_nil_iff]; omega
  have hks : keysS (-1) b.keys = true := by rw [hi2, hd]; rfl
  have hm : brM b = decide (1 ≤ b.keys.length ∧ 0 ≤ b.af ∧ b.af ≤ 1099511627776 ∧ 0 ≤ b.ol ∧ b.ol ≤ 65536) := by simp only [brM, hks, Bool.true_and]
  rw [hm]
  by_cases c1 : 1 ≤ b.keys.length
  rotate_left
  ·have c1' : ¬ (1 : Int) ≤ (b.keys.length : Int) := by omega
   rw [decide_eq_false (by omega)]
   simp [Ptr, I, l0, e0, e33, e34, iC, c1, c1']
   exact fin0
  have c1' : (1 : Int) ≤ (b.keys.length : Int) := by omega
  by_cases c2 : 0 ≤ b.af
  rotate_left
  ·have d2 : b.af < 0 := by omega
   rw [decide_eq_false (by omega)]
   simp [Ptr, I, l0, e0, e33, e34, iC, c1, c1', c2, d2]
   exact fin0
  have d2 : ¬ b.af < 0 := by omega
  by_cases c3 : b.af ≤ 1099511627776
  rotate_left
  ·have d3 : 1099511627776 < b.af := by omega
   rw [decide_eq_false (by omega)]
   simp [Ptr, I, l0, e0, e33, e34, iC, c1, c1', c2, d2, c3, d3]
   exact fin0
  have d3 : ¬ 1099511627776 < b.af := by omega
  by_cases c4 : 0 ≤ b.ol
  rotate_left
  ·have d4 : b.ol < 0 := by omega
   rw [decide_eq_false (by omega)]
   simp [Ptr, I, l0, e0, e33, e34, iC, c1, c1', c2, d2, c3, d3, c4, d4]
   exact fin0
  have d4 : ¬ b.ol < 0 := by omega
  by_cases c5 : b.ol ≤ 65536
  rotate_left
  ·have d5 : 65536 < b.ol := by omega
   rw [decide_eq_false (by omega)]
   simp [Ptr, I, l0, e0, e33, e34, iC, c1, c1', c2, d2, c3, d3, c4, d4, c5, d5]
   exact fin0
  have d5 : ¬ 65536 < b.ol := by omega
  rw [decide_eq_true (by omega)]
  simp [Ptr, I, l0, e0, e33, e34, iC, c1, c1', c2, d2, c3, d3, c4, d4, c5, d5]
  exact fin0
theorem CndC1_ok (x : Bra) (h : x.ok) : ECalls Tryz.prog 197 [.v (.agg (braC x))] [] fun y H' => H' = [] ∧ y = .lit (.bool (!brM x)) := by
 have l0 := bc_len h.2.1
 have t0 := bc_take h.2.1
 refine ecalls k_CndC1 ?_
 simp [c_CndC1, I, l0, t0]
 refine call0 (Bmay_ok x h) (by simp) ?_
 rintro y H' ⟨rfl, rfl⟩
 refine ⟨.inl (by simp), le_ok rfl, ?_⟩
 simp
 exact fin0
theorem CndC1_body : bodyOK Tryz.prog 197 = true := by kernel_rfl
theorem IdxBr_ok (l : List Bra) (hl : ∀ h ∈ l, h.ok) (hn : l.length ≤ 100000000) : ECalls Tryz.prog 149 [.v (.c (.fz (.sl 35 (brav l)))), .v (.c (.clo 197 []))] [] fun y H' => H' = [] ∧ ((l.all brM = true ∧ y = I .i64 (-1)) ∨ (l.all brM = false ∧ ∃ i : Nat, y = I .i64 i)) := by
 obtain ⟨B, hB⟩ : ∃ B, l.all brM = B := ⟨_, rfl⟩
 rw [hB]
 refine ecalls k_IdxBr ?_
 simp [c_IdxBr, I]
 refine eloop (α := Nat) (fun i => i ≤ l.length ∧ ∀ (k : Nat) (x : Bra), k < i → l[k]? = some x → brM x = true) (fun i => l.length - i)
  (fun i => [.v (.c (.fz (.sl 35 (brav l)))), .v (.c (.clo 197 [])), .any, .any, .any, .any, .any, I .i64 l.length, I .i64 i, .any, .any, .any, .any, .any, .any, .any, .any, .any, .any]) (fun _ => []) 0 []
  ⟨Nat.zero_le _, fun k x h => by omega⟩ (by simp [I]) (by simp) (by simp) (by simp) (by simp) ?_
 rintro i ⟨hi, hlo⟩
 simp [I]
 refine alt (fun hlt => ?_) (fun hlt => ?_)
 ·have hln : i < l.length := by omega
  obtain ⟨p, hc⟩ : ∃ p, l[i]? = some p := ⟨l[i], by simp [hln]⟩
  have hge : (brav l)[i]'(by simp [hln]) = braF p := gE (brav_get hc)
  have w4 := wS (i := i) (by omega)
  have hpo := hl p (List.mgE hc)
  have l0 := bc_len hpo.2.1
  have l1 := bf_len hpo.2.1
  have t0 := bc_take hpo.2.1
  simp [hln, hge, braF_fz, l0, l1, t0]
  refine ⟨CndC1_body, ?_⟩
  refine call0 (CndC1_ok p hpo) (by simp) ?_
  rintro y H' ⟨rfl, rfl⟩
  refine ⟨.inl (by simp), le_ok rfl, ?_⟩
  cases hP : brM p
  ·simp
   exact fin [] (by decide) rfl rfl rfl ⟨rfl, .inr ⟨by rw [← hB, List.all_eq_false]; exact ⟨p, List.mgE hc, by simp [hP]⟩, i, rfl⟩⟩
  ·simp [w4, -Int.natCast_add]
   refine round (i + 1) [] ⟨by omega, ?_⟩ (by omega) (by simp [I]) (by simp) (by simp) (by simp) (by simp)
   intro k q hk hq
   rcases Nat.lt_or_ge k i with h1 | h1
   ·exact hlo k q h1 hq
   ·obtain rfl : k = i := by omega
    rw [hc] at hq
    obtain rfl := Option.some.inj hq
    exact hP
 ·simp
  refine fin [] (by decide) rfl rfl rfl ⟨rfl, .inl ⟨?_, rfl⟩⟩
  rw [← hB, List.all_eq_true]
  intro x hx
  obtain ⟨k, hk⟩ := List.getElem?_of_mem hx
  exact hlo k x (by have := lt_len hk; omega) hk
theorem ConBr_ok (l : List Bra) (hl : ∀ h ∈ l, h.ok) (hn : l.length ≤ 100000000) : ECalls Tryz.prog 83 [.v (.c (.fz (.sl 35 (brav l)))), .v (.c (.clo 197 []))] [] fun y H' => H' = [] ∧ y = .lit (.bool (!l.all brM)) := by
 refine ecalls k_ConBr ?_
 simp [c_ConBr]
 refine call0 (IdxBr_ok l hl hn) (by simp) ?_
 rintro y H' ⟨rfl, h⟩
 rcases h with ⟨h, rfl⟩ | ⟨h, i, rfl⟩
 ·refine ⟨.inl (by simp [I]), le_ok rfl, ?_⟩
  rw [h]
  simp [I]
  exact fin0
 ·refine ⟨.inl (by simp [I]), le_ok rfl, ?_⟩
  have n0 : (0 : Int) ≤ (i : Int) := by omega
  rw [h]
  simp [I, n0]
  exact fin0
theorem CCheck_ok (l : List Bra) (hl : ∀ h ∈ l, h.ok) (hn : l.length ≤ 100000000) : ECalls Tryz.prog 169 [CNv l] [] fun y H' => H' = [] ∧ y = .lit (errV (cnE l)) := by
 refine ecalls k_CCheck ?_
 simp [c_CCheck, CNv, I]
 by_cases c1 : l.length < 1
 ·have c1' : (l.length : Int) < 1 := by omega
  have d1 : ¬ 1 ≤ l.length := by omega
  have d1' : ¬ (1 : Int) ≤ (l.length : Int) := by omega
  have hv : cnE l = 1 := if_neg (by omega)
  rw [hv]
  simp [c1, c1', d1, d1']
  exact fin0
 have c1' : ¬ (l.length : Int) < 1 := by omega
 have d1 : 1 ≤ l.length := by omega
 have d1' : (1 : Int) ≤ (l.length : Int) := by omega
 by_cases c2 : 8 < l.length
 ·have c2' : (8 : Int) < (l.length : Int) := by omega
  have d2 : ¬ l.length ≤ 8 := by omega
  have d2' : ¬ (l.length : Int) ≤ 8 := by omega
  have hv : cnE l = 1 := if_neg (by omega)
  rw [hv]
  simp [c1, c1', d1, d1', c2, c2', d2, d2']
  exact fin0
 have c2' : ¬ (8 : Int) < (l.length : Int) := by omega
 have d2 : l.length ≤ 8 := by omega
 have d2' : (l.length : Int) ≤ 8 := by omega
 simp [c1, c1', d1, d1', c2, c2', d2, d2']
 refine call0 (ConBr_ok l hl hn) (by simp) ?_
 rintro y H' ⟨rfl, rfl⟩
 refine ⟨.inl (by simp), le_ok rfl, ?_⟩
 cases hP : l.all brM
 ·have hv : cnE l = 1 := if_neg (by rw [hP]; simp)
  rw [hv]
  simp
  exact fin0
 ·have hv : cnE l = 0 := if_pos ⟨by omega, hP⟩
  rw [hv]
  simp
  exact fin0
theorem OutChk_ok (o : Outp) (h : o.ok) : ECalls Tryz.prog 117 [.v (.agg (outC o))] [] fun y H' => H' = [] ∧ y = .lit (errV (ouE o)) := by
 obtain ⟨h1, h2, h3⟩ := h
 refine ecalls k_OutChk ?_
 simp [c_OutChk, outC, I, iC]
 by_cases c1 : o.am < 10
 ·rw [show ouE o = 27 from if_pos c1]
  simp [c1]
  exact fin0
 by_cases c2 : 1125899906842624 < o.am
 ·rw [show ouE o = 5 by unfold ouE; rw [if_neg c1, if_pos c2]]
  simp [c1, c2]
  exact fin0
 rw [show ouE o = cnE o.cs by unfold ouE; rw [if_neg c1, if_neg c2]]
 simp [c1, c2]
 refine call0 (CCheck_ok o.cs h2 h3) (by simp [CNv]) ?_
 rintro y H' ⟨rfl, rfl⟩
 refine ⟨.inl (by simp), le_ok rfl, ?_⟩
 simp [-errV_0]
 exact fin0
theorem TxSome_ok (n : Int) : ECalls Tryz.prog 115 [I .i64 n] [] fun y H' => H' = [] ∧ y = .lit (.bool (decide (1 ≤ n ∧ n ≤ 64))) := by
 refine ecalls k_TxSome ?_
 simp [c_TxSome, I]
 by_cases c1 : 1 ≤ n
 ·by_cases c2 : n ≤ 64
  ·simp [c1, c2]
   exact fin0
  ·simp [c1, c2]
   exact fin0
 ·simp [c1]
  exact fin0
end Go.Proofs.YtejjhgdnmknejaaGreatDoor
namespace Go.Proofs.YtejjhgdnmknejaaGreatDoor
open Go.RowKit Go.Extern.Stop Go.Stop Go.Extern
theorem grow_w (n : Nat) (hn : n ≤ 1000000000) (h1 : 0 < n) (w : World) : Calls Tryz.prog 199 #[.slice none 0 0, .int .i64 n] w fun e w' =>
  e = .returned (.slice (some ⟨w.heap.size, 0, none⟩) 0 (grownCap w n 0 5)) ∧ w' = w.drew.alloc (.cells (Builtin.zeroCells #[.int .u8 0] n ++ Builtin.zeroCells #[.int .u8 0] (grownCap w n 0 5 - n)) 5) := by
 have key : (Tryz.prog.info? 5).map (fun i => (i.zero, i.size, i.bytes)) = some (some (.int .u8 0), 1, 1) := by kernel_rfl
 obtain ⟨i, hi, hz, hs, hb⟩ : ∃ i, Tryz.prog.info? 5 = some i ∧ i.zero = some (.int .u8 0) ∧ i.size = 1 ∧ i.bytes = 1 := by
  cases h : Tryz.prog.info? 5 with
  | none => rw [h] at key; simp at key
  | some i => rw [h] at key; simp at key; exact ⟨i, rfl, key.1, key.2.1, key.2.2⟩
 have hr : ∀ ty, (Builtin.append_ #[80, 3] ty #[.slice none 0 0, .int .i64 n]).run Tryz.prog w = .ok (.slice (some ⟨w.heap.size, 0, none⟩) n (grownCap w n 0 5)) (w.drew.alloc (.cells (Builtin.zeroCells #[.int .u8 0] n ++ Builtin.zeroCells #[.int .u8 0] (grownCap w n 0 5 - n)) 5)) := fun ty =>
  Lib.run_append_nil_zeros w 80 3 ty 5 _ (.int .u8 0) .i64 .i64 Tryz.underlying80 Tryz.underlying3 hi hz n h1 (by omega) (by omega) (by rw [hb]; omega)
 have h2 : ¬ ((n : Int) < 0) := by omega
 have h4 : (n : Int) > 0 := by omega
 have h3 : wrap64 (n : Int) = (n : Int) := by unfold wrap64; omega
 have hGn : n ≤ grownCap w n 0 5 := grownCap_ge w _ _ _
 obtain ⟨G, hG⟩ : ∃ G, G = grownCap w n 0 5 := ⟨_, rfl⟩
 rw [← hG] at hr hGn ⊢
 go_enter Tryz.func199, Tryz.ntmps199
 go_wp2_with (at_builtin; refine Lib.wpList_append_run _ rfl _ _ _ _ rfl _ _ rfl rfl _ _ (hr _) ?_)
 all_goals (go_ret; exact ⟨rfl, rfl⟩)
open Go.EW in
theorem Grow_ok (n : Nat) (hn : n ≤ 1000000000) (h1 : 0 < n) : ECalls Tryz.prog 199 [.v (.c (.fz (.lit (.slice none 0 0)))), .v (.c (.fz (.lit (.int .i64 n))))] [] fun y H' => H' = [some (.row 5 1 [])] ∧ y = .v (.c (.row 0 0)) := by
 intro ρ Φ w vals r ha
 obtain ⟨v, vs, rfl, hv, h2⟩ := ha.cons_left
 obtain ⟨v2, vs2, rfl, hv2, h3⟩ := h2.cons_left
 obtain rfl := h3.nil_left
 have hv' : FR Φ w (.lit (.slice none 0 0)) v := hv
 have hv2' : FR Φ w (.lit (.int .i64 n)) v2 := hv2
 cases hv'
 cases hv2'
 refine (grow_w n hn h1 w).mono fun e w' ⟨he, hw⟩ => ?_
 subst hw
 obtain ⟨G, hG⟩ : ∃ G, G = grownCap w n 0 5 := ⟨_, rfl⟩
 have hGn : n ≤ G := by rw [hG]; exact grownCap_ge w _ _ _
 have hGm : G ≤ maxLen := by rw [hG]; exact grownCap_le_maxLen w _ _ _ (by simp [maxLen]; omega)
 rw [← hG] at he ⊢
 have hu : (fun o : Nat => o < ([] : List EO).length ∨ o = 0) = fun o => o < [some (EO.row 5 1 [])].length := by funext o; simp
 have hh : upd (ofL ([] : List EO)) 0 (some (EO.row 5 1 [])) = ofO [some (EO.row 5 1 [])] := by
  funext o
  rcases o with _ | o
  ·rfl
  ·simp [upd, ofL, ofO]
 have key := r.new (w' := w.drew.alloc (.cells (Builtin.zeroCells #[.int .u8 0] n ++ Builtin.zeroCells #[.int .u8 0] (G - n)) 5)) rfl rfl rfl (by simp) (fun b hb => by
   have hb' : b < w.heap.size := hb
   show (w.drew.heap.push _)[b]? = w.heap[b]?
   rw [Array.getElem?_push_lt (by simpa using hb')]
   simp [hb', heap_drew]) 0 (by simp) (by simp) (.row 5 1 []) (.slice (some ⟨w.heap.size, 0, none⟩) 0 G) (by intro b hb; simp [EW.hb] at hb; subst hb; exact Nat.le_refl _) ?_
 ·have k1 := key.1
  rw [hh, hu] at k1
  exact ⟨_, _, _, _, _, he, ⟨rfl, rfl⟩, by simp, ⟨by simp, some ⟨w.heap.size, 0, none⟩, 0, G, by simp [upd], Nat.le_refl _, Nat.zero_le _, rfl⟩, k1⟩
 ·refine ⟨by decide, by simp, [], ⟨rfl, .inr ⟨w.heap.size, G, (Builtin.zeroCells #[.int .u8 0] n ++ Builtin.zeroCells #[.int .u8 0] (G - n)), rfl, Nat.zero_le _, ?_, Nat.zero_le _, hGm, ?_, by simp⟩⟩, All2.nil⟩
  ·show (w.drew.heap.push _)[w.heap.size]? = _
   rw [show w.heap.size = w.drew.heap.size from rfl, Array.getElem?_push_size]
  ·simp [Builtin.zeroCells]; omega
end Go.Proofs.YtejjhgdnmknejaaGreatDoor
