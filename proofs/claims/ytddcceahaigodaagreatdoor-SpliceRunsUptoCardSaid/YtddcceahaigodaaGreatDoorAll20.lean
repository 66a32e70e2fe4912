import Derived.Test.YtddcceahaigodaaGreatDoorProg
import Derived.Test.YtddcceahaigodaaGreatDoorAll6
set_option maxHeartbeats 64000000
namespace Go.Proofs.YtddcceahaigodaaGreatDoor
open Go Go.EW
set_option linter.unusedSimpArgs false
set_option linter.unusedVariables false
def yl11j : UL | _ => [xM 0 6 1, xQ 1 7 (.cnv .u64 (.t 6)), xQ 2 8 (.bin .and (.t 7) (.k (.int .u64 31))), xM 3 5 8]
def yl11k : UL | _ => [xb 6 15 .shr 12 14, xb 7 16 .or 11 15, xM 8 4 16]
def yl11l : UL | _ => xM 0 9 0 :: xM 1 10 5 :: xb 2 11 .shl 9 10 :: xM 3 12 0 :: xM 4 13 5 :: xQ 5 14 (.bin .sub (.k (.int .u64 32)) (.t 13)) :: hid yl11k
def yb11m : UB | _ => .seq (reg0 [xQ 0 4 (.mov (.k (.int .u32 0)))] 1) (.seq (reg0 (hid yl11j) 4) (.seq (reg0 (hid yl11l) 9) .ret))
attribute [simp] yl11j yl11k yl11l yb11m
def c_Rot : EB × List QOp × Nat := ((hid yb11m), [(.mov (.t 4))], 17)
theorem k_Rot : cfun Tryz.prog 183 = some c_Rot := by kernel_rfl
def yl11n : UL | _ => [xb 12 26 .add 18 25, xQ 13 27 (.nilc (.t 14)), xQ 14 28 (.iad 16 1 (.t 27) (.t 15)), xN 15 (.sto 1 (.t 28) (.t 26))]
def yl11o : UL | _ => xM 6 20 2 :: xQ 7 21 (.nilc (.t 19)) :: xQ 8 22 (.iad 16 1 (.t 21) (.t 20)) :: xL 9 23 22 :: xM 10 24 5 :: xb 11 25 .add 23 24 :: hid yl11n
def yl11p : UL | _ => xM 0 14 0 :: xM 1 15 1 :: xQ 2 16 (.nilc (.t 14)) :: xQ 3 17 (.iad 16 1 (.t 16) (.t 15)) :: xL 4 18 17 :: xM 5 19 0 :: hid yl11o
def yl11q : UL | _ => [xb 12 41 .xor 35 40, xQ 14 43 (.nilc (.t 29)), ⟨13, (some 42), none, (.call 183 [.t 41, (.k (.int .i64 (-16)))]), [0, 1, 14]⟩, xQ 15 44 (.iad 16 1 (.t 43) (.t 30)), xN 16 (.sto 1 (.t 44) (.t 42))]
def yl11r : UL | _ => xL 6 35 34 :: xM 7 36 0 :: xM 8 37 1 :: xQ 9 38 (.nilc (.t 36)) :: xQ 10 39 (.iad 16 1 (.t 38) (.t 37)) :: xL 11 40 39 :: hid yl11q
def yl11s : UL | _ => xM 0 29 0 :: xM 1 30 4 :: xM 2 31 0 :: xM 3 32 4 :: xQ 4 33 (.nilc (.t 31)) :: xQ 5 34 (.iad 16 1 (.t 33) (.t 32)) :: hid yl11r
def yl11t : UL | _ => [xQ 12 57 (.iad 16 1 (.t 56) (.t 46)), xN 13 (.sto 1 (.t 57) (.t 55))]
def yl11u : UL | _ => xM 6 51 4 :: xQ 7 52 (.nilc (.t 50)) :: xQ 8 53 (.iad 16 1 (.t 52) (.t 51)) :: xL 9 54 53 :: xb 10 55 .add 49 54 :: xQ 11 56 (.nilc (.t 45)) :: hid yl11t
def yl11v : UL | _ => xM 0 45 0 :: xM 1 46 3 :: xQ 2 47 (.nilc (.t 45)) :: xQ 3 48 (.iad 16 1 (.t 47) (.t 46)) :: xL 4 49 48 :: xM 5 50 0 :: hid yl11u
def yl11w : UL | _ => [xb 12 70 .xor 64 69, xQ 14 72 (.nilc (.t 58)), ⟨13, (some 71), none, (.call 183 [.t 70, (.k (.int .i64 (-12)))]), [0, 1, 14]⟩, xQ 15 73 (.iad 16 1 (.t 72) (.t 59)), xN 16 (.sto 1 (.t 73) (.t 71))]
def yl11x : UL | _ => xL 6 64 63 :: xM 7 65 0 :: xM 8 66 3 :: xQ 9 67 (.nilc (.t 65)) :: xQ 10 68 (.iad 16 1 (.t 67) (.t 66)) :: xL 11 69 68 :: hid yl11w
def yl11y : UL | _ => xM 0 58 0 :: xM 1 59 2 :: xM 2 60 0 :: xM 3 61 2 :: xQ 4 62 (.nilc (.t 60)) :: xQ 5 63 (.iad 16 1 (.t 62) (.t 61)) :: hid yl11x
def yl11z : UL | _ => [xb 12 86 .add 78 85, xQ 13 87 (.nilc (.t 74)), xQ 14 88 (.iad 16 1 (.t 87) (.t 75)), xN 15 (.sto 1 (.t 88) (.t 86))]
def yl120 : UL | _ => xM 6 80 2 :: xQ 7 81 (.nilc (.t 79)) :: xQ 8 82 (.iad 16 1 (.t 81) (.t 80)) :: xL 9 83 82 :: xM 10 84 6 :: xb 11 85 .add 83 84 :: hid yl11z
def yl121 : UL | _ => xM 0 74 0 :: xM 1 75 1 :: xQ 2 76 (.nilc (.t 74)) :: xQ 3 77 (.iad 16 1 (.t 76) (.t 75)) :: xL 4 78 77 :: xM 5 79 0 :: hid yl120
def yl122 : UL | _ => [xb 12 101 .xor 95 100, xQ 14 103 (.nilc (.t 89)), ⟨13, (some 102), none, (.call 183 [.t 101, (.k (.int .i64 (-8)))]), [0, 1, 14]⟩, xQ 15 104 (.iad 16 1 (.t 103) (.t 90)), xN 16 (.sto 1 (.t 104) (.t 102))]
def yl123 : UL | _ => xL 6 95 94 :: xM 7 96 0 :: xM 8 97 1 :: xQ 9 98 (.nilc (.t 96)) :: xQ 10 99 (.iad 16 1 (.t 98) (.t 97)) :: xL 11 100 99 :: hid yl122
def yl124 : UL | _ => xM 0 89 0 :: xM 1 90 4 :: xM 2 91 0 :: xM 3 92 4 :: xQ 4 93 (.nilc (.t 91)) :: xQ 5 94 (.iad 16 1 (.t 93) (.t 92)) :: hid yl123
def yl125 : UL | _ => [xQ 12 117 (.iad 16 1 (.t 116) (.t 106)), xN 13 (.sto 1 (.t 117) (.t 115))]
def yl126 : UL | _ => xM 6 111 4 :: xQ 7 112 (.nilc (.t 110)) :: xQ 8 113 (.iad 16 1 (.t 112) (.t 111)) :: xL 9 114 113 :: xb 10 115 .add 109 114 :: xQ 11 116 (.nilc (.t 105)) :: hid yl125
def yl127 : UL | _ => xM 0 105 0 :: xM 1 106 3 :: xQ 2 107 (.nilc (.t 105)) :: xQ 3 108 (.iad 16 1 (.t 107) (.t 106)) :: xL 4 109 108 :: xM 5 110 0 :: hid yl126
def yl128 : UL | _ => [xb 12 130 .xor 124 129, xQ 14 132 (.nilc (.t 118)), ⟨13, (some 131), none, (.call 183 [.t 130, (.k (.int .i64 (-7)))]), [0, 1, 14]⟩, xQ 15 133 (.iad 16 1 (.t 132) (.t 119)), xN 16 (.sto 1 (.t 133) (.t 131))]
def yl129 : UL | _ => xL 6 124 123 :: xM 7 125 0 :: xM 8 126 3 :: xQ 9 127 (.nilc (.t 125)) :: xQ 10 128 (.iad 16 1 (.t 127) (.t 126)) :: xL 11 129 128 :: hid yl128
def yl12a : UL | _ => xM 0 118 0 :: xM 1 119 2 :: xM 2 120 0 :: xM 3 121 2 :: xQ 4 122 (.nilc (.t 120)) :: xQ 5 123 (.iad 16 1 (.t 122) (.t 121)) :: hid yl129
def yb12e : UB | _ => .seq (reg0 (hid yl11p) 16) (.seq (reg1 (hid yl11s) 17) (.seq (reg0 (hid yl11v) 14) (.seq (reg1 (hid yl11y) 17) (.seq (reg0 (hid yl121) 16) (.seq (reg1 (hid yl124) 17) (.seq (reg0 (hid yl127) 14) (reg1 (hid yl12a) 17)))))))
attribute [simp] yl11n yl11o yl11p yl11q yl11r yl11s yl11t yl11u yl11v yl11w yl11x yl11y yl11z yl120 yl121 yl122 yl123 yl124 yl125 yl126 yl127 yl128 yl129 yl12a yb12e
def c_mix : EB × List QOp × Nat := ((hid yb12e), [], 134)
theorem k_mix : cfun Tryz.prog 177 = some c_mix := by kernel_rfl
def yl12f : UL | _ => [xQ 0 0 (.alloc 228 [(.int .u32 0), (.int .u32 0), (.int .u32 0), (.int .u32 0), (.int .u32 0), (.int .u32 0), (.int .u32 0), (.int .u32 0)])]
def yl12g : UL | _ => [xQ 0 1 (.build [(.int .u32 0), (.int .u32 0), (.int .u32 0), (.int .u32 0), (.int .u32 0), (.int .u32 0), (.int .u32 0), (.int .u32 0)] [(0, 1, (.k (.int .u32 1779033703))), (1, 1, (.k (.int .u32 3144134277))), (2, 1, (.k (.int .u32 1013904242))), (3, 1, (.k (.int .u32 2773480762))), (4, 1, (.k (.int .u32 1359893119))), (5, 1, (.k (.int .u32 2600822924))), (6, 1, (.k (.int .u32 528734635))), (7, 1, (.k (.int .u32 1541459225)))]), xN 1 (.sto 8 (.t 0) (.t 1))]
def yb12h : UB | _ => .seq (reg0 (hid yl12f) 1) (.seq (reg0 (hid yl12g) 2) .ret)
attribute [simp] yl12f yl12g yb12h
def c_first : EB × List QOp × Nat := ((hid yb12h), [(.lda 8 (.t 0))], 2)
theorem k_first : cfun Tryz.prog 108 = some c_first := by kernel_rfl
def wi (x : UInt32) : Int := (x.toNat : Int)
def wc (x : UInt32) : EC := .fz (.lit (.int .u32 (wi x)))
def wl (l : List UInt32) : List EC := l.map wc
def WV (x : UInt32) : EV := .lit (.int .u32 (wi x))
def NV (n : Int) : EV := .lit (.int .i64 n)
@[simp] theorem wl_len (l : List UInt32) : (wl l).length = l.length := by simp [wl]
theorem wl_get {l : List UInt32} {i : Nat} {x : UInt32} (h : l[i]? = some x) : (wl l)[i]? = some (wc x) := by simp [wl, h]
theorem wl_set (l : List UInt32) (i : Nat) (x : UInt32) : (wl l).set i (.fz (.lit (.int .u32 (wi x)))) = wl (l.set i x) := by simp [wl, List.map_set, wc]
@[simp] theorem conAll_wl (H : Nat → Option EO) (ids : List Nat) (l : List UInt32) : conAll H ids (wl l) = some (wl l) := by
 induction l with
 | nil => rfl
 | cons b t ih =>
  have e : wl (b :: t) = .fz (.lit (.int .u32 (wi b))) :: wl t := rfl
  rw [e]
  simp only [conAll, ih]
  simp
@[simp] theorem strAll_wl (ids : List Nat) (l : List UInt32) : strAll ids (wl l) = some (wl l) := by
 induction l with
 | nil => rfl
 | cons b r ih => simp only [wl, List.map_cons, strAll] at *; rw [ih]; rfl
@[simp] theorem refs_wl (l : List UInt32) : (wl l).flatMap refsC = [] := by
 induction l with
 | nil => rfl
 | cons b r ih => simp only [wl, List.map_cons, List.flatMap_cons] at *; rw [ih]; rfl
@[simp] theorem fz_wl (ids : List Nat) (l : List UInt32) : (wl l).flatMap (fzC ids) = [] := by
 induction l with
 | nil => rfl
 | cons b r ih => simp only [wl, List.map_cons, List.flatMap_cons] at *; rw [ih]; rfl
@[simp] theorem ren_wl (g : Nat → Nat) (l : List UInt32) : (wl l).map (renC g) = wl l := by
 induction l with
 | nil => rfl
 | cons b r ih => simp only [wl, List.map_cons] at *; rw [ih]; rfl
def shl (x : UInt32) (k : Nat) : UInt32 := UInt32.ofNat (x.toNat * 2 ^ k)
def shr (x : UInt32) (k : Nat) : UInt32 := UInt32.ofNat (x.toNat / 2 ^ k)
def rotr (x : UInt32) (k : Nat) : UInt32 := shl x (32 - k) ||| shr x k
theorem u32_mod (n : Int) : IntKind.u32.wrap n = n % 4294967296 := by simp [IntKind.wrap, IntKind.bits, IntKind.signed]
theorem wi_ofNat (n : Nat) : wi (UInt32.ofNat n) = (n : Int) % 4294967296 := by
 unfold wi
 rw [UInt32.toNat_ofNat']
 omega
theorem wi_b (x : UInt32) : 0 ≤ wi x ∧ wi x < 4294967296 := by
 unfold wi
 have := x.toNat_lt
 simp at *
 omega
theorem wi_add (x y : UInt32) : IntKind.u32.wrap (wi x + wi y) = wi (x + y) := by
 rw [u32_mod]
 unfold wi
 rw [UInt32.toNat_add]
 omega
theorem wi_of (x : UInt32) : BitVec.ofInt IntKind.u32.bits (wi x) = x.toBitVec := by
 unfold wi
 simp [IntKind.bits]
theorem wrap_wi (x : UInt32) : IntKind.u32.wrap (wi x) = wi x := by
 have := wi_b x
 rw [u32_mod]; omega
theorem wi_xor (x y : UInt32) : ibit .xor .u32 (wi x) (wi y) = wi (x ^^^ y) := by
 have h3 : (BitVec.ofInt IntKind.u32.bits (wi x) ^^^ BitVec.ofInt IntKind.u32.bits (wi y)).toNat = (x ^^^ y).toNat := by
  rw [wi_of, wi_of]; rfl
 refine (congrArg (fun n : Nat => IntKind.u32.wrap (n : Int)) h3).trans ?_
 exact wrap_wi (x ^^^ y)
theorem wi_or (x y : UInt32) : ibit .or .u32 (wi x) (wi y) = wi (x ||| y) := by
 have h3 : (BitVec.ofInt IntKind.u32.bits (wi x) ||| BitVec.ofInt IntKind.u32.bits (wi y)).toNat = (x ||| y).toNat := by
  rw [wi_of, wi_of]; rfl
 refine (congrArg (fun n : Nat => IntKind.u32.wrap (n : Int)) h3).trans ?_
 exact wrap_wi (x ||| y)
theorem wi_shl (x : UInt32) (k : Nat) (h : k ≤ 32) : ishl .u32 (wi x) (k : Int) = wi (shl x k) := by
 unfold ishl shl
 rw [wi_ofNat, u32_mod, show min (k : Int).toNat IntKind.u32.bits = k by simp [IntKind.bits]; omega]
 unfold wi
 simp
theorem wi_shr (x : UInt32) (k : Nat) (h : k ≤ 32) : ishr .u32 (wi x) (k : Int) = wi (shr x k) := by
 have e : ishr .u32 (wi x) (k : Int) = ((x.toNat / 2 ^ k : Nat) : Int) := ishr_nat .u32 x.toNat k h
 rw [e]
 unfold shr
 rw [wi_ofNat]
 have h1 : x.toNat / 2 ^ k ≤ x.toNat := Nat.div_le_self _ _
 have h2 := x.toNat_lt
 generalize x.toNat / 2 ^ k = q at *
 omega
theorem Rot16_ok (x : UInt32) : ECalls Tryz.prog 183 [WV x, NV (-16)] [] fun y H' => H' = [] ∧ y = WV (rotr x 16) := by
 have s1 : ishl .u32 (wi x) 16 = wi (shl x 16) := wi_shl x 16 (by omega)
 have r1 : ishr .u32 (wi x) 16 = wi (shr x 16) := wi_shr x 16 (by omega)
 have a1 : IntKind.u64.wrap (-16) = 18446744073709551600 := by decide +kernel
 have a2 : ibit .and .u64 18446744073709551600 31 = 16 := by decide +kernel
 have a3 : IntKind.u64.wrap 16 = 16 := by decide +kernel
 refine ecalls k_Rot ?_
 simp [c_Rot, WV, NV, a1, a2, a3, s1, r1, wi_or]
 exact fin0
theorem Rot12_ok (x : UInt32) : ECalls Tryz.prog 183 [WV x, NV (-12)] [] fun y H' => H' = [] ∧ y = WV (rotr x 12) := by
 have s1 : ishl .u32 (wi x) 20 = wi (shl x 20) := wi_shl x 20 (by omega)
 have r1 : ishr .u32 (wi x) 12 = wi (shr x 12) := wi_shr x 12 (by omega)
 have a1 : IntKind.u64.wrap (-12) = 18446744073709551604 := by decide +kernel
 have a2 : ibit .and .u64 18446744073709551604 31 = 20 := by decide +kernel
 have a3 : IntKind.u64.wrap 12 = 12 := by decide +kernel
 refine ecalls k_Rot ?_
 simp [c_Rot, WV, NV, a1, a2, a3, s1, r1, wi_or]
 exact fin0
theorem Rot8_ok (x : UInt32) : ECalls Tryz.prog 183 [WV x, NV (-8)] [] fun y H' => H' = [] ∧ y = WV (rotr x 8) := by
 have s1 : ishl .u32 (wi x) 24 = wi (shl x 24) := wi_shl x 24 (by omega)
 have r1 : ishr .u32 (wi x) 8 = wi (shr x 8) := wi_shr x 8 (by omega)
 have a1 : IntKind.u64.wrap (-8) = 18446744073709551608 := by decide +kernel
 have a2 : ibit .and .u64 18446744073709551608 31 = 24 := by decide +kernel
 have a3 : IntKind.u64.wrap 8 = 8 := by decide +kernel
 refine ecalls k_Rot ?_
 simp [c_Rot, WV, NV, a1, a2, a3, s1, r1, wi_or]
 exact fin0
theorem Rot7_ok (x : UInt32) : ECalls Tryz.prog 183 [WV x, NV (-7)] [] fun y H' => H' = [] ∧ y = WV (rotr x 7) := by
 have s1 : ishl .u32 (wi x) 25 = wi (shl x 25) := wi_shl x 25 (by omega)
 have r1 : ishr .u32 (wi x) 7 = wi (shr x 7) := wi_shr x 7 (by omega)
 have a1 : IntKind.u64.wrap (-7) = 18446744073709551609 := by decide +kernel
 have a2 : ibit .and .u64 18446744073709551609 31 = 25 := by decide +kernel
 have a3 : IntKind.u64.wrap 7 = 7 := by decide +kernel
 refine ecalls k_Rot ?_
 simp [c_Rot, WV, NV, a1, a2, a3, s1, r1, wi_or]
 exact fin0
def firstW : List UInt32 := [0x6a09e667, 0xbb67ae85, 0x3c6ef372, 0xa54ff53a, 0x510e527f, 0x9b05688c, 0x1f83d9ab, 0x5be0cd19]
theorem first_ok : ECalls Tryz.prog 108 [] [] fun y H' => H' = [] ∧ y = .v (.agg (wl firstW)) := by
 refine ecalls k_first ?_
 simp [c_first]
 exact fin0
theorem pun_x32 (x : UInt32) : pun .xor (.int .u32 (wi x)) = some (.int .u32 (wi (~~~x))) := by
 have h3 : (BitVec.ofInt IntKind.u32.bits (-1) ^^^ BitVec.ofInt IntKind.u32.bits (wi x)).toNat = (~~~x).toNat := by
  rw [wi_of]
  have k : BitVec.allOnes 32 ^^^ x.toBitVec = ~~~ x.toBitVec := BitVec.allOnes_xor
  exact congrArg BitVec.toNat k
 simp only [pun, Option.some.injEq, Value.int.injEq, true_and]
 refine (congrArg (fun n : Nat => IntKind.u32.wrap (n : Int)) h3).trans ?_
 exact wrap_wi (~~~x)
def g (v : List UInt32) (i : Nat) : UInt32 := (v[i]?).getD 0
def mixS (v : List UInt32) (a b c d : Nat) (x y : UInt32) : List UInt32 :=
 let v := v.set a (g v a + (g v b + x))
 let v := v.set d (rotr (g v d ^^^ g v a) 16)
 let v := v.set c (g v c + g v d)
 let v := v.set b (rotr (g v b ^^^ g v c) 12)
 let v := v.set a (g v a + (g v b + y))
 let v := v.set d (rotr (g v d ^^^ g v a) 8)
 let v := v.set c (g v c + g v d)
 v.set b (rotr (g v b ^^^ g v c) 7)
def VO (v : List UInt32) : EO := .box 303 (wl v)
theorem wl_put {v : List UInt32} {i : Nat} {x : UInt32} (h : i < v.length) : List.take i (wl v) ++ .fz (.lit (.int .u32 (wi x))) :: List.drop (i + 1) (wl v) = wl (v.set i x) := by
 rw [← wl_set, List.set_eq_take_append_cons_drop, if_pos (by simpa using h)]
theorem wl_g {v : List UInt32} {i : Nat} (h : i < v.length) : (wl v)[i]? = some (.fz (.lit (.int .u32 (wi (g v i))))) := by
 refine wl_get (x := g v i) ?_
 unfold g
 rw [List.getElem?_eq_getElem h]
 rfl
theorem wl_gE {v : List UInt32} {i : Nat} (h : i < v.length) (h2 : i < (wl v).length) : (wl v)[i]'h2 = .fz (.lit (.int .u32 (wi (g v i)))) := by
 have := wl_g h
 rw [List.getElem?_eq_getElem h2] at this
 exact Option.some.inj this
set_option maxRecDepth 8000 in
theorem mix_ok (v : List UInt32) (a b c d : Nat) (x y : UInt32) (hv : v.length = 16) (ha : a < 16) (hb : b < 16) (hc : c < 16) (hd : d < 16) : ECalls Tryz.prog 177 [.v (.c (.ptr 0 0)), NV a, NV b, NV c, NV d, WV x, WV y] [VO v] fun y' H' => H' = [some (VO (mixS v a b c d x y))] ∧ y' = .tup [] := by
 have la : a < v.length := by omega
 have lb : b < v.length := by omega
 have lc : c < v.length := by omega
 have ld : d < v.length := by omega
 have xa : a ≤ 15 := by omega
 have xb : b ≤ 15 := by omega
 have xc : c ≤ 15 := by omega
 have xd : d ≤ 15 := by omega
 have ia : (a : Int) < 16 := by omega
 have ib : (b : Int) < 16 := by omega
 have ic : (c : Int) < 16 := by omega
 have id' : (d : Int) < 16 := by omega
 obtain ⟨v1, h1⟩ : ∃ w, v.set a (g v a + (g v b + x)) = w := ⟨_, rfl⟩
 have e1 : v1.length = 16 := by rw [← h1, List.length_set]; exact hv
 obtain ⟨v2, h2⟩ : ∃ w, v1.set d (rotr (g v1 d ^^^ g v1 a) 16) = w := ⟨_, rfl⟩
 have e2 : v2.length = 16 := by rw [← h2, List.length_set]; exact e1
 obtain ⟨v3, h3⟩ : ∃ w, v2.set c (g v2 c + g v2 d) = w := ⟨_, rfl⟩
 have e3 : v3.length = 16 := by rw [← h3, List.length_set]; exact e2
 obtain ⟨v4, h4⟩ : ∃ w, v3.set b (rotr (g v3 b ^^^ g v3 c) 12) = w := ⟨_, rfl⟩
 have e4 : v4.length = 16 := by rw [← h4, List.length_set]; exact e3
 obtain ⟨v5, h5⟩ : ∃ w, v4.set a (g v4 a + (g v4 b + y)) = w := ⟨_, rfl⟩
 have e5 : v5.length = 16 := by rw [← h5, List.length_set]; exact e4
 obtain ⟨v6, h6⟩ : ∃ w, v5.set d (rotr (g v5 d ^^^ g v5 a) 8) = w := ⟨_, rfl⟩
 have e6 : v6.length = 16 := by rw [← h6, List.length_set]; exact e5
 obtain ⟨v7, h7⟩ : ∃ w, v6.set c (g v6 c + g v6 d) = w := ⟨_, rfl⟩
 have e7 : v7.length = 16 := by rw [← h7, List.length_set]; exact e6
 obtain ⟨v8, h8⟩ : ∃ w, v7.set b (rotr (g v7 b ^^^ g v7 c) 7) = w := ⟨_, rfl⟩
 have e8 : v8.length = 16 := by rw [← h8, List.length_set]; exact e7
 have hm : mixS v a b c d x y = v8 := by unfold mixS; simp only [h1, h2, h3, h4, h5, h6, h7, h8]
 rw [hm]
 refine ecalls k_mix ?_
 simp [c_mix, NV, WV, VO, hv, e1, e2, e3, e4, e5, e6, e7, e8, ha, hb, hc, hd, ia, ib, ic, id', xa, xb, xc, xd, wl_gE, wl_put, la, lb, lc, ld, wi_add, wi_xor, h1, h2, h3, h4, h5, h6, h7, h8]
 refine call0 (Rot16_ok (g v1 d ^^^ g v1 a)) (by simp [WV, NV]) ?_
 rintro y' H' ⟨rfl, rfl⟩
 refine ⟨.inl (by simp), le_ok rfl, ?_⟩
 simp [NV, WV, VO, hv, e1, e2, e3, e4, e5, e6, e7, e8, ha, hb, hc, hd, ia, ib, ic, id', xa, xb, xc, xd, wl_gE, wl_put, la, lb, lc, ld, wi_add, wi_xor, h1, h2, h3, h4, h5, h6, h7, h8]
 refine call0 (Rot12_ok (g v3 b ^^^ g v3 c)) (by simp [WV, NV]) ?_
 rintro y' H' ⟨rfl, rfl⟩
 refine ⟨.inl (by simp), le_ok rfl, ?_⟩
 simp [NV, WV, VO, hv, e1, e2, e3, e4, e5, e6, e7, e8, ha, hb, hc, hd, ia, ib, ic, id', xa, xb, xc, xd, wl_gE, wl_put, la, lb, lc, ld, wi_add, wi_xor, h1, h2, h3, h4, h5, h6, h7, h8]
 refine call0 (Rot8_ok (g v5 d ^^^ g v5 a)) (by simp [WV, NV]) ?_
 rintro y' H' ⟨rfl, rfl⟩
 refine ⟨.inl (by simp), le_ok rfl, ?_⟩
 simp [NV, WV, VO, hv, e1, e2, e3, e4, e5, e6, e7, e8, ha, hb, hc, hd, ia, ib, ic, id', xa, xb, xc, xd, wl_gE, wl_put, la, lb, lc, ld, wi_add, wi_xor, h1, h2, h3, h4, h5, h6, h7, h8]
 refine call0 (Rot7_ok (g v7 b ^^^ g v7 c)) (by simp [WV, NV]) ?_
 rintro y' H' ⟨rfl, rfl⟩
 refine ⟨.inl (by simp), le_ok rfl, ?_⟩
 simp [NV, WV, VO, hv, e1, e2, e3, e4, e5, e6, e7, e8, ha, hb, hc, hd, ia, ib, ic, id', xa, xb, xc, xd, wl_gE, wl_put, la, lb, lc, ld, wi_add, wi_xor, h1, h2, h3, h4, h5, h6, h7, h8]
 exact fin [] (by decide) rfl rfl (by simp [objsOut]) ⟨rfl, rfl⟩
def yl12j : UL | _ => [xQ 0 8 (.alloc 303 (List.replicate 16 (.int .u32 0))), xQ 1 9 (.alloc 303 (List.replicate 16 (.int .u32 0)))]
def yl12n : UL | _ => [xQ 30 50 (.iad 16 1 (.t 8) (.t 20)), xN 31 (.sto 1 (.t 50) (.t 49))]
def yl12o : UL | _ => xc 24 44 .add 43 3 :: xQ 25 45 (.iad 64 1 (.t 5) (.t 44)) :: xL 26 46 45 :: xQ 27 47 (.cnv .u32 (.t 46)) :: xQ 28 48 (.bin .shl (.t 47) (.k (.int .u64 24))) :: xb 29 49 .or 41 48 :: hid yl12n
def yl12p : UL | _ => xL 18 38 37 :: xQ 19 39 (.cnv .u32 (.t 38)) :: xQ 20 40 (.bin .shl (.t 39) (.k (.int .u64 16))) :: xb 21 41 .or 33 40 :: xM 22 42 10 :: xQ 23 43 (.bin .mul (xK 4) (.t 42)) :: hid yl12o
def yl12q : UL | _ => xQ 12 32 (.bin .shl (.t 31) (.k (.int .u64 8))) :: xb 13 33 .or 25 32 :: xM 14 34 10 :: xQ 15 35 (.bin .mul (xK 4) (.t 34)) :: xc 16 36 .add 35 2 :: xQ 17 37 (.iad 64 1 (.t 5) (.t 36)) :: hid yl12p
def yl12r : UL | _ => xM 6 26 10 :: xQ 7 27 (.bin .mul (xK 4) (.t 26)) :: xc 8 28 .add 27 1 :: xQ 9 29 (.iad 64 1 (.t 5) (.t 28)) :: xL 10 30 29 :: xQ 11 31 (.cnv .u32 (.t 30)) :: hid yl12q
def yl12s : UL | _ => xM 0 20 10 :: xM 1 21 10 :: xQ 2 22 (.bin .mul (xK 4) (.t 21)) :: xQ 3 23 (.iad 64 1 (.t 5) (.t 22)) :: xL 4 24 23 :: xQ 5 25 (.cnv .u32 (.t 24)) :: hid yl12r
def b_btake_25 : UB | _ => .seq (reg0 [xc 0 18 .lss 17 16] 1) (.seq (.cond (.t 18) .skip (.exit 0)) (.seq (.block 1 (.seq (reg0 [xM 0 19 17, xM 1 10 19] 2) (reg0 (hid yl12s) 32))) (reg0 [xc 0 51 .add 17 1, xM 1 17 51] 2)))
def yl12v : UL | _ => [xQ 0 52 (.sar 16 (.t 9) none none), xM 1 53 0, xQ 2 54 (.nilc (.t 53)), xQ 3 55 (.sar 8 (.t 54) none none), xO 4 56 (.cpy 1 (.t 52) (.t 55))]
def yl12w : UL | _ => [xO 0 57 (.call 108 []), xQ 1 11 (.alloc 228 [(.int .u32 0), (.int .u32 0), (.int .u32 0), (.int .u32 0), (.int .u32 0), (.int .u32 0), (.int .u32 0), (.int .u32 0)]), xN 2 (.sto 8 (.t 11) (.t 57))]
def yl12x : UL | _ => [xQ 0 58 (.sar 16 (.t 9) (some (xK 8)) none), xQ 1 59 (.sar 8 (.t 11) none none), xO 2 60 (.cpy 1 (.t 58) (.t 59))]
def yl12y : UL | _ => [xN 6 (.sto 1 (.t 66) (.t 65))]
def yl12z : UL | _ => xQ 0 61 (.iad 16 1 (.t 9) (xK 12)) :: xL 1 62 61 :: xM 2 63 2 :: xQ 3 64 (.cnv .u32 (.t 63)) :: xb 4 65 .xor 62 64 :: xQ 5 66 (.iad 16 1 (.t 9) (xK 12)) :: hid yl12y
def yl130 : UL | _ => [xQ 6 73 (.iad 16 1 (.t 9) (xK 13)), xN 7 (.sto 1 (.t 73) (.t 72))]
def yl131 : UL | _ => xQ 0 67 (.iad 16 1 (.t 9) (xK 13)) :: xL 1 68 67 :: xM 2 69 2 :: xQ 3 70 (.bin .shr (.t 69) (.k (.int .u64 32))) :: xQ 4 71 (.cnv .u32 (.t 70)) :: xb 5 72 .xor 68 71 :: hid yl130
def yl133 : UL | _ => [xQ 0 75 (.iad 16 1 (.t 9) (xK 14)), xL 1 76 75, xQ 2 77 (.un .xor (.t 76)), xQ 3 78 (.iad 16 1 (.t 9) (xK 14)), xN 4 (.sto 1 (.t 78) (.t 77))]
def yl138 : UL | _ => [xM 0 82 12, xQ 1 83 (.iad 10 16 (.k (.pointer (some ⟨1, 0, none⟩))) (.t 82)), xD 2 84 16 83, xQ 3 13 (.alloc 305 (List.replicate 16 (.int .u8 0))), xN 4 (.sto 16 (.t 13) (.t 84))]
def yl13c : UL | _ => [xQ 18 106 (.iad 16 1 (.t 8) (.t 105)), xL 19 107 106, xO 20 108 (.call 177 [.t 9, .t 88, .t 90, .t 92, .t 94, .t 100, .t 107])]
def yl13d : UL | _ => xL 12 100 99 :: xM 13 101 14 :: xQ 14 102 (.bin .mul (xK 2) (.t 101)) :: xc 15 103 .add 102 1 :: xQ 16 104 (.iad 16 1 (.t 13) (.t 103)) :: xL 17 105 104 :: hid yl13c
def yl13e : UL | _ => xQ 6 94 (.bin .add (xK 12) (.t 93)) :: xM 7 95 14 :: xQ 8 96 (.bin .mul (xK 2) (.t 95)) :: xQ 9 97 (.iad 16 1 (.t 13) (.t 96)) :: xL 10 98 97 :: xQ 11 99 (.iad 16 1 (.t 8) (.t 98)) :: hid yl13d
def yl13f : UL | _ => xM 0 88 14 :: xM 1 89 14 :: xQ 2 90 (.bin .add (xK 4) (.t 89)) :: xM 3 91 14 :: xQ 4 92 (.bin .add (xK 8) (.t 91)) :: xM 5 93 14 :: hid yl13e
def b_btake_74 : UB | _ => .seq (reg0 [xc 0 86 .lss 85 4] 1) (.seq (.cond (.t 86) .skip (.exit 4)) (.seq (.block 5 (.seq (reg0 [xM 0 87 85, xM 1 14 87] 2) (reg0 (hid yl13f) 21))) (reg0 [xc 0 109 .add 85 1, xM 1 85 109] 2)))
def yl13l : UL | _ => [xL 24 137 136, xQ 25 138 (.iad 16 1 (.t 8) (.t 137)), xL 26 139 138, xO 27 140 (.call 177 [.t 9, .t 113, .t 117, .t 121, .t 125, .t 132, .t 139])]
def yl13m : UL | _ => xQ 18 131 (.iad 16 1 (.t 8) (.t 130)) :: xL 19 132 131 :: xM 20 133 15 :: xQ 21 134 (.bin .mul (xK 2) (.t 133)) :: xQ 22 135 (.bin .add (xK 9) (.t 134)) :: xQ 23 136 (.iad 16 1 (.t 13) (.t 135)) :: hid yl13l
def yl13n : UL | _ => xQ 12 125 (.bin .add (xK 12) (.t 124)) :: xM 13 126 15 :: xQ 14 127 (.bin .mul (xK 2) (.t 126)) :: xQ 15 128 (.bin .add (xK 8) (.t 127)) :: xQ 16 129 (.iad 16 1 (.t 13) (.t 128)) :: xL 17 130 129 :: hid yl13m
def yl13o : UL | _ => xc 6 119 .add 118 2 :: xc 7 120 .rem 119 4 :: xQ 8 121 (.bin .add (xK 8) (.t 120)) :: xM 9 122 15 :: xc 10 123 .add 122 3 :: xc 11 124 .rem 123 4 :: hid yl13n
def yl13p : UL | _ => xM 0 113 15 :: xM 1 114 15 :: xc 2 115 .add 114 1 :: xc 3 116 .rem 115 4 :: xQ 4 117 (.bin .add (xK 4) (.t 116)) :: xM 5 118 15 :: hid yl13o
def b_btake_97 : UB | _ => .seq (reg0 [xc 0 111 .lss 110 4] 1) (.seq (.cond (.t 111) .skip (.exit 6)) (.seq (.block 7 (.seq (reg0 [xM 0 112 110, xM 1 15 112] 2) (reg0 (hid yl13p) 28))) (reg0 [xc 0 141 .add 110 1, xM 1 110 141] 2)))
def yb13t : UB | _ => .seq (reg0 [xM 0 81 79, xM 1 12 81] 2) (.seq (reg0 (hid yl138) 5) (.seq (.seq (reg0 [xC 0 85 0] 1) (.block 4 (.loop (hid b_btake_74)))) (.seq (reg0 [xC 0 110 0] 1) (.block 6 (.loop (hid b_btake_97))))))
def yb13v : UB | _ => .seq (.cond (.t 80) .skip (.exit 2)) (.seq (.block 3 (hid yb13t)) (reg0 [xc 0 142 .add 79 1, xM 1 79 142] 2))
def b_btake_109 : UB | _ => .seq (reg0 [xc 0 80 .lss 79 10] 1) (hid yb13v)
def yl13z : UL | _ => [xb 12 158 .xor 153 157, xb 13 159 .xor 150 158, xQ 14 160 (.nilc (.t 146)), xQ 15 161 (.iad 8 1 (.t 160) (.t 147)), xN 16 (.sto 1 (.t 161) (.t 159))]
def yl140 : UL | _ => xQ 6 152 (.iad 16 1 (.t 9) (.t 151)) :: xL 7 153 152 :: xM 8 154 16 :: xQ 9 155 (.bin .add (xK 8) (.t 154)) :: xQ 10 156 (.iad 16 1 (.t 9) (.t 155)) :: xL 11 157 156 :: hid yl13z
def yl141 : UL | _ => xM 0 146 0 :: xM 1 147 16 :: xQ 2 148 (.nilc (.t 146)) :: xQ 3 149 (.iad 8 1 (.t 148) (.t 147)) :: xL 4 150 149 :: xM 5 151 16 :: hid yl140
def b_btake_130 : UB | _ => .seq (reg0 [xc 0 144 .lss 143 8] 1) (.seq (.cond (.t 144) .skip (.exit 8)) (.seq (.block 9 (.seq (reg0 [xM 0 145 143, xM 1 16 145] 2) (reg0 (hid yl141) 17))) (reg0 [xc 0 162 .add 143 1, xM 1 143 162] 2)))
def yb146 : UB | _ => .seq (reg0 (hid yl12x) 3) (.seq (reg0 (hid yl12z) 7) (.seq (reg0 (hid yl131) 8) (.seq (.seq (reg0 [xM 0 74 3] 1) (.cond (.t 74) (reg0 (hid yl133) 5) .skip)) (.seq (.seq (reg0 [xC 0 79 0] 1) (.block 2 (.loop (hid b_btake_109)))) (.seq (reg0 [xC 0 143 0] 1) (.block 8 (.loop (hid b_btake_130))))))))
def yb149 : UB | _ => .seq (reg0 [xW 0 5 285 1] 1) (.seq (reg0 (hid yl12j) 2) (.seq (.seq (reg0 [xC 0 17 0] 1) (.block 0 (.loop (hid b_btake_25)))) (.seq (reg0 (hid yl12v) 5) (.seq (reg0 (hid yl12w) 3) (hid yb146)))))
attribute [simp] yl12j yl12n yl12o yl12p yl12q yl12r yl12s b_btake_25 yl12v yl12w yl12x yl12y yl12z yl130 yl131 yl133 yl138 yl13c yl13d yl13e yl13f b_btake_74 yl13l yl13m yl13n yl13o yl13p b_btake_97 yb13t yb13v b_btake_109 yl13z yl140 yl141 b_btake_130 yb146 yb149
def c_btake : EB × List QOp × Nat := ((hid yb149), [], 163)
theorem k_btake : cfun Tryz.prog 157 = some c_btake := by kernel_rfl
def bw (b : UInt8) : UInt32 := UInt32.ofNat b.toNat
def g8 (b : List UInt8) (i : Nat) : UInt8 := (b[i]?).getD 0
def wordS (b : List UInt8) (i : Nat) : UInt32 := ((bw (g8 b (4 * i)) ||| shl (bw (g8 b (4 * i + 1))) 8) ||| shl (bw (g8 b (4 * i + 2))) 16) ||| shl (bw (g8 b (4 * i + 3))) 24
def upW (n : Nat) (f : Nat → UInt32) : List UInt32 := (List.range n).map f
theorem upW_len (n : Nat) (f : Nat → UInt32) : (upW n f).length = n := by simp [upW]
theorem upW_set {n : Nat} (f h : Nat → UInt32) {i : Nat} (x : UInt32) (he : ∀ j, j < n → h j = if j = i then x else f j) : (upW n f).set i x = upW n h := by
 apply List.ext_getElem?
 intro j
 by_cases hj : j < n
 ·rw [List.getElem?_set]
  by_cases hi : i = j
  ·subst hi
   simp [upW, hj, he i hj]
  ·simp [upW, hj, he j hj, hi]
   intro e
   exact absurd e.symm hi
 ·rw [List.getElem?_eq_none (by simp [upW]; omega), List.getElem?_eq_none (by simp [upW]; omega)]
def mI (b : List UInt8) (i : Nat) : List UInt32 := upW 16 fun j => if j < i then wordS b j else 0
theorem mI_set (b : List UInt8) (i : Nat) : (mI b i).set i (wordS b i) = mI b (i + 1) := by
 refine upW_set _ _ _ (fun j _ => ?_)
 by_cases h1 : j = i
 ·subst h1; simp
 ·by_cases h2 : j < i
  ·rw [if_neg h1, if_pos h2, if_pos (by omega)]
  ·rw [if_neg h1, if_neg h2, if_neg (by omega)]
def lo32 (t : Nat) : UInt32 := UInt32.ofNat t
def hi32 (t : Nat) : UInt32 := UInt32.ofNat (t / 4294967296)
def iniS (h : List UInt32) (t : Nat) (last : Bool) : List UInt32 :=
 let v := h ++ firstW
 let v := v.set 12 (g v 12 ^^^ lo32 t)
 let v := v.set 13 (g v 13 ^^^ hi32 t)
 if last then v.set 14 (~~~ g v 14) else v
theorem wi_lo (t : Nat) : IntKind.u32.wrap (t : Int) = wi (lo32 t) := by
 rw [u32_mod]
 unfold lo32
 rw [wi_ofNat]
theorem wi_hi (t : Nat) : IntKind.u32.wrap ((t : Int) / 4294967296) = wi (hi32 t) := by
 rw [u32_mod]
 unfold hi32
 rw [wi_ofNat]
 omega
theorem wi_bw (b : UInt8) : IntKind.u32.wrap (b.toNat : Int) = wi (bw b) := by
 rw [u32_mod]
 unfold bw
 rw [wi_ofNat]
theorem hc_gE {b : List UInt8} {i : Nat} (h : i < b.length) (h2 : i < (hc b).length) : (hc b)[i]'h2 = .fz (.lit (.int .u8 ((g8 b i).toNat : Int))) := by
 simp [hc, g8, h]
theorem hc_d0 {b : List UInt8} {i : Nat} (h : i < b.length) : (hc (List.drop i b))[0]? = some (.fz (.lit (.int .u8 ((g8 b i).toNat : Int)))) := by
 simp [hc, g8, h]
def wf (l : List UInt32) : List FV := l.map fun x => .lit (.int .u32 (wi x))
@[simp] theorem frz_wl (l : List UInt32) : frzAll (wl l) = some (wf l) := by
 induction l with
 | nil => rfl
 | cons b r ih => simp only [wl, List.map_cons, frzAll] at *; rw [ih]; rfl
theorem wf_flat (l : List UInt32) (n : Nat) (h : l.length ≤ n) : (List.take n (List.map (List.map EC.fz ∘ fun x => [x]) (wf l))).flatten = wl l := by
 rw [List.tkL (by simp [wf]; exact h)]
 clear h
 induction l with
 | nil => rfl
 | cons b r ih => simp only [wf, wl, List.map_cons, List.flatten_cons] at *; rw [ih]; rfl
theorem wf_sum (l : List UInt32) (n : Nat) (h : l.length ≤ n) : (List.take n (List.map (List.length ∘ fun x => [x]) (wf l))).sum = l.length := by
 rw [List.tkL (by simp [wf]; exact h)]
 clear h
 induction l with
 | nil => rfl
 | cons b r ih => simp only [wf, List.map_cons, List.sum_cons, List.length_cons] at *; rw [ih]; simp [Function.comp]; omega
def Z16 : List UInt32 := List.replicate 16 0
theorem wl_take (l : List UInt32) (n : Nat) : (wl l).take n = wl (l.take n) := by simp [wl]
theorem wl_drop (l : List UInt32) (n : Nat) : (wl l).drop n = wl (l.drop n) := by simp [wl]
theorem wl_app (l r : List UInt32) : wl l ++ wl r = wl (l ++ r) := by simp [wl]
def sN (r j : Nat) : Nat := ((ordN[16 * r + j]?).getD 0).toNat
def colS (m : List UInt32) (r i : Nat) (v : List UInt32) : List UInt32 := mixS v i (4 + i) (8 + i) (12 + i) (g m (sN r (2 * i))) (g m (sN r (2 * i + 1)))
def diaS (m : List UInt32) (r i : Nat) (v : List UInt32) : List UInt32 := mixS v i (4 + (i + 1) % 4) (8 + (i + 2) % 4) (12 + (i + 3) % 4) (g m (sN r (8 + 2 * i))) (g m (sN r (9 + 2 * i)))
def colsS (m : List UInt32) (r : Nat) (v : List UInt32) : Nat → List UInt32
 | 0 => v
 | k + 1 => colS m r k (colsS m r v k)
def diasS (m : List UInt32) (r : Nat) (v : List UInt32) : Nat → List UInt32
 | 0 => v
 | k + 1 => diaS m r k (diasS m r v k)
def rndsS (m : List UInt32) (v : List UInt32) : Nat → List UInt32
 | 0 => v
 | r + 1 => diasS m r (colsS m r (rndsS m v r) 4) 4
theorem mixS_len (v : List UInt32) (a b c d : Nat) (x y : UInt32) : (mixS v a b c d x y).length = v.length := by simp [mixS]
theorem colsS_len (m : List UInt32) (r : Nat) (v : List UInt32) : ∀ k, (colsS m r v k).length = v.length
 | 0 => rfl
 | k + 1 => by unfold colsS colS; rw [mixS_len, colsS_len m r v k]
theorem diasS_len (m : List UInt32) (r : Nat) (v : List UInt32) : ∀ k, (diasS m r v k).length = v.length
 | 0 => rfl
 | k + 1 => by unfold diasS diaS; rw [mixS_len, diasS_len m r v k]
theorem rndsS_len (m : List UInt32) (v : List UInt32) : ∀ r, (rndsS m v r).length = v.length
 | 0 => rfl
 | r + 1 => by unfold rndsS; rw [diasS_len, colsS_len, rndsS_len m v r]
def ocB (r : Nat) : List UInt8 := (List.range 16).map fun j => UInt8.ofNat (sN r j)
theorem ocB_len (r : Nat) : (ocB r).length = 16 := by simp [ocB]
theorem ordN_len : ordN.length = 160 := by decide +kernel
theorem sN_lt : ∀ r, r < 10 → ∀ j, j < 16 → sN r j < 16 := by decide +kernel
theorem ordN_get : ∀ r, r < 10 → ∀ j, j < 16 → ordN[16 * r + j]? = some (sN r j : Int) := by decide +kernel
theorem ocB_get {r j : Nat} (hr : r < 10) (h : j < 16) : ((g8 (ocB r) j).toNat : Int) = (sN r j : Int) := by
 have := sN_lt r hr j h
 simp [g8, ocB, h]
 omega
theorem oc_eq (r : Nat) (h : r < 10) : List.take 16 (List.drop (r * 16) (List.map (EC.fz ∘ fun n => FV.lit (Value.int .u8 n)) ordN)) = hc (ocB r) := by
 apply List.ext_getElem?
 intro j
 by_cases hj : j < 16
 ·have h1 := ordN_get r h j hj
  have h2 := ocB_get h hj
  have h3 : (hc (ocB r))[j]? = some (.fz (.lit (.int .u8 ((g8 (ocB r) j).toNat : Int)))) := by simp [hc, g8, ocB, hj]
  rw [List.getElem?_take, if_pos hj, List.getElem?_drop, List.getElem?_map, show r * 16 + j = 16 * r + j by omega, h1, h3, h2]
  rfl
 ·rw [List.getElem?_eq_none (by simp; omega), List.getElem?_eq_none (by simp [ocB]; omega)]
def xorS (h v : List UInt32) : Nat → List UInt32
 | 0 => h
 | k + 1 => (xorS h v k).set k (g (xorS h v k) k ^^^ (g v k ^^^ g v (8 + k)))
theorem xorS_len (h v : List UInt32) : ∀ k, (xorS h v k).length = h.length
 | 0 => rfl
 | k + 1 => by unfold xorS; rw [List.length_set, xorS_len h v k]
def takeS (h : List UInt32) (b : List UInt8) (t : Nat) (last : Bool) : List UInt32 := xorS h (rndsS (mI b 16) (iniS h t last) 10) 8
def HO (h : List UInt32) : EO := .box 228 (wl h)
def BV (b : List UInt8) : EV := .v (.agg (hc b))
def wB (v : List UInt32) : Option EO := some (.box 303 (wl v))
def hB2 (h : List UInt32) : Option EO := some (.box 228 (wl h))
def tk0 (t : Nat) (last : Bool) (i : Nat) (e : EV) : List EV := [.v (.c (.ptr 0 0)), xA, .lit (.int .u64 t), .lit (.bool last), xA, .v (.c (.ptr 1 0)), xA, xA, .v (.c (.ptr 2 0)), .v (.c (.ptr 3 0)), xA, xA, xA, xA, xA, xA, xA, NV i, e, xA, xA, xA, xA, xA, xA, xA, xA, xA, xA, xA, xA, xA, xA, xA, xA, xA, xA, xA, xA, xA, xA, xA, xA, xA, xA, xA, xA, xA, xA, xA, xA, xA, xA, xA, xA, xA, xA, xA, xA, xA, xA, xA, xA, xA, xA, xA, xA, xA, xA, xA, xA, xA, xA, xA, xA, xA, xA, xA, xA, xA, xA, xA, xA, xA, xA, xA, xA, xA, xA, xA, xA, xA, xA, xA, xA, xA, xA, xA, xA, xA, xA, xA, xA, xA, xA, xA, xA, xA, xA, xA, xA, xA, xA, xA, xA, xA, xA, xA, xA, xA, xA, xA, xA, xA, xA, xA, xA, xA, xA, xA, xA, xA, xA, xA, xA, xA, xA, xA, xA, xA, xA, xA, xA, xA, xA, xA, xA, xA, xA, xA, xA, xA, xA, xA, xA, xA, xA, xA, xA, xA, xA, xA, .any]
def hk0 (h : List UInt32) (b : List UInt8) (i : Nat) : List (Option EO) := [hB2 h, some (.box 285 (hc b)), wB (mI b i), wB Z16]
@[simp] theorem hk0_len (h : List UInt32) (b : List UInt8) (i : Nat) : (hk0 h b i).length = 4 := rfl
set_option maxRecDepth 8000 in
theorem take_words (h : List UInt32) (b : List UInt8) (t : Nat) (last : Bool) (hb : b.length = 64) (Q : Exit → St → Go.EW.Tok → Prop) (hQ : ∀ n, Q (.exit 0) ⟨tk0 t last 16 (.lit (.bool false)), ofO (hk0 h b 16), n⟩ .on) :
  LoopT Tryz.prog 1 (hid b_btake_25) Q ⟨tk0 t last 0 .any, ofO (hk0 h b 0), 4⟩ := by
 refine eloop (α := Nat) (fun i => i ≤ 16) (fun i => 16 - i) (fun i => tk0 t last i .any) (fun i => hk0 h b i) 0 [0, 1, 2, 3]
  (by omega) (by simp [tk0, NV]) (by simp [hk0, hB2, wB]) (by simp [hk0, hB2, wB]) (by simp) (by simp [hk0]) ?_
 intro i hi
 have hml : (mI b i).length = 16 := upW_len _ _
 by_cases hlt : i < 16
 ·have il : (i : Int) < 16 := by omega
  have xl : i ≤ 15 := by omega
  obtain ⟨k, hk⟩ : ∃ k, k = 4 * i := ⟨_, rfl⟩
  have w0 : IntKind.i64.wrap (4 * (i : Int)) = (k : Int) := by rw [wrap_i64 (by omega) (by omega)]; omega
  have w1 : IntKind.i64.wrap ((k : Int) + 1) = ((k + 1 : Nat) : Int) := wrap_i64 (by omega) (by omega)
  have w2 : IntKind.i64.wrap ((k : Int) + 2) = ((k + 2 : Nat) : Int) := wrap_i64 (by omega) (by omega)
  have w3 : IntKind.i64.wrap ((k : Int) + 3) = ((k + 3 : Nat) : Int) := wrap_i64 (by omega) (by omega)
  have wi1 := wS (i := i) (by omega)
  have k0 : k < 64 := by omega
  have k1 : k + 1 < 64 := by omega
  have k2 : k + 2 < 64 := by omega
  have k3 : k + 3 < 64 := by omega
  have j0 : (k : Int) < 64 := by omega
  have j1 : ((k + 1 : Nat) : Int) < 64 := by omega
  have j2 : ((k + 2 : Nat) : Int) < 64 := by omega
  have j3 : ((k + 3 : Nat) : Int) < 64 := by omega
  have s8 : ∀ x, ishl .u32 (wi x) 8 = wi (shl x 8) := fun x => wi_shl x 8 (by omega)
  have s16 : ∀ x, ishl .u32 (wi x) 16 = wi (shl x 16) := fun x => wi_shl x 16 (by omega)
  have s24 : ∀ x, ishl .u32 (wi x) 24 = wi (shl x 24) := fun x => wi_shl x 24 (by omega)
  have hw : ((bw (g8 b k) ||| shl (bw (g8 b (k + 1))) 8) ||| shl (bw (g8 b (k + 2))) 16) ||| shl (bw (g8 b (k + 3))) 24 = wordS b i := by rw [hk]; rfl
  simp [tk0, hk0, wB, hB2, NV, il, xl, w0, w1, w2, w3, wi1, hb, k0, k1, k2, k3, j0, j1, j2, j3, s8, s16, s24, hc_gE, hc_d0, wi_bw, wi_or, hw, hml, hlt, wl_put, mI_set, -Int.natCast_add]
  exact round (i + 1) [0, 1, 2, 3] (by omega) (by omega) (by simp [tk0, NV]) (by simp [hk0, hB2, wB]) (by simp [hk0, hB2, wB]) (by simp) (by simp [hk0])
 ·have hi16 : i = 16 := by omega
  subst hi16
  simp [tk0, hk0, NV]
  exact hQ _
def tk4 (r i : Nat) (e : EV) : List EV := [.v (.c (.ptr 0 0)), xA, xA, xA, xA, xA, xA, xA, .v (.c (.ptr 1 0)), .v (.c (.ptr 2 0)), xA, xA, xA, .v (.c (.ptr 3 0)), xA, xA, xA, xA, xA, xA, xA, xA, xA, xA, xA, xA, xA, xA, xA, xA, xA, xA, xA, xA, xA, xA, xA, xA, xA, xA, xA, xA, xA, xA, xA, xA, xA, xA, xA, xA, xA, xA, xA, xA, xA, xA, xA, xA, xA, xA, xA, xA, xA, xA, xA, xA, xA, xA, xA, xA, xA, xA, xA, xA, xA, xA, xA, xA, xA, NV r, xA, xA, xA, xA, xA, NV i, e, xA, xA, xA, xA, xA, xA, xA, xA, xA, xA, xA, xA, xA, xA, xA, xA, xA, xA, xA, xA, xA, xA, xA, xA, xA, xA, xA, xA, xA, xA, xA, xA, xA, xA, xA, xA, xA, xA, xA, xA, xA, xA, xA, xA, xA, xA, xA, xA, xA, xA, xA, xA, xA, xA, xA, xA, xA, xA, xA, xA, xA, xA, xA, xA, xA, xA, xA, xA, xA, xA, xA, xA, xA, xA, xA, .any]
def hk4 (h m v : List UInt32) (r : Nat) : List (Option EO) := [hB2 h, wB m, wB v, some (.box 305 (hc (ocB r)))]
@[simp] theorem hk4_len (h m v : List UInt32) (r : Nat) : (hk4 h m v r).length = 4 := rfl
set_option maxRecDepth 8000 in
theorem take_cols (h m V : List UInt32) (r : Nat) (hlr : r < 10) (hml : m.length = 16) (er : V.length = 16) (Q : Exit → St → Go.EW.Tok → Prop) (hQ : ∀ n, Q (.exit 4) ⟨tk4 r 4 (.lit (.bool false)), ofO (hk4 h m (colsS m r V 4) r), n⟩ .on) :
  LoopT Tryz.prog 1 (hid b_btake_74) Q ⟨tk4 r 0 .any, ofO (hk4 h m V r), 4⟩ := by
 refine eloop (α := Nat) (fun i => i ≤ 4) (fun i => 4 - i) (fun i => tk4 r i .any) (fun i => hk4 h m (colsS m r V i) r) 0 [0, 1, 2, 3]
  (by omega) (by simp [tk4, NV]) (by simp [hk4, hB2, wB, colsS]) (by simp [hk4, hB2, wB]) (by simp) (by simp [hk4]) ?_
 intro i hi
 have ei : (colsS m r V i).length = 16 := by rw [colsS_len]; exact er
 by_cases hli : i < 4
 ·have ii : (i : Int) < 4 := by omega
  have wi1 := wS (i := i) (by omega)
  have w4 : IntKind.i64.wrap (4 + (i : Int)) = ((4 + i : Nat) : Int) := by rw [wrap_i64 (by omega) (by omega)]; omega
  have w8 : IntKind.i64.wrap (8 + (i : Int)) = ((8 + i : Nat) : Int) := by rw [wrap_i64 (by omega) (by omega)]; omega
  have w12 : IntKind.i64.wrap (12 + (i : Int)) = ((12 + i : Nat) : Int) := by rw [wrap_i64 (by omega) (by omega)]; omega
  have wa : IntKind.i64.wrap (2 * (i : Int)) = ((2 * i : Nat) : Int) := by rw [wrap_i64 (by omega) (by omega)]; omega
  have wb : IntKind.i64.wrap (((2 * i : Nat) : Int) + 1) = ((2 * i + 1 : Nat) : Int) := wrap_i64 (by omega) (by omega)
  have xa : ((2 * i : Nat) : Int) < 16 := by omega
  have xb : ((2 * i + 1 : Nat) : Int) < 16 := by omega
  have ol := ocB_len r
  have oa := ocB_get hlr (show 2 * i < 16 by omega)
  have ob := ocB_get hlr (show 2 * i + 1 < 16 by omega)
  have la : 2 * i < 16 := by omega
  have lb : 2 * i + 1 < 16 := by omega
  have sa := sN_lt r hlr (2 * i) (by omega)
  have sb := sN_lt r hlr (2 * i + 1) (by omega)
  have ta : (sN r (2 * i) : Int) < 16 := by omega
  have tb : (sN r (2 * i + 1) : Int) < 16 := by omega
  simp [tk4, hk4, wB, hB2, NV, ii, w4, w8, w12, wa, wb, xa, xb, ol, la, lb, hc_d0, hc_gE, oa, ob, sa, sb, ta, tb, hml, wl_gE, -Int.natCast_add, -Int.natCast_mul]
  refine callH [2] (mix_ok (colsS m r V i) i (4 + i) (8 + i) (12 + i) (g m (sN r (2 * i))) (g m (sN r (2 * i + 1))) ei (by omega) (by omega) (by omega) (by omega)) (by simp [NV, WV]) (by simp [VO]) (by simp) (by simp) (by simp) ?_
  rintro y H' ⟨rfl, rfl⟩
  refine ⟨.inl (by simp), by simp, ?_⟩
  simp [VO, wi1, -Int.natCast_add]
  exact round (i + 1) [0, 1, 2, 3] (by omega) (by omega) (by simp [tk4, NV]) (by simp [hk4, hB2, wB, colsS, colS]) (by simp [hk4, hB2, wB]) (by simp) (by simp [hk4])
 ·have h4 : i = 4 := by omega
  subst h4
  simp [tk4, hk4, NV]
  exact hQ _
def tk6 (r i : Nat) (e : EV) : List EV := [.v (.c (.ptr 0 0)), xA, xA, xA, xA, xA, xA, xA, .v (.c (.ptr 1 0)), .v (.c (.ptr 2 0)), xA, xA, xA, .v (.c (.ptr 3 0)), xA, xA, xA, xA, xA, xA, xA, xA, xA, xA, xA, xA, xA, xA, xA, xA, xA, xA, xA, xA, xA, xA, xA, xA, xA, xA, xA, xA, xA, xA, xA, xA, xA, xA, xA, xA, xA, xA, xA, xA, xA, xA, xA, xA, xA, xA, xA, xA, xA, xA, xA, xA, xA, xA, xA, xA, xA, xA, xA, xA, xA, xA, xA, xA, xA, NV r, xA, xA, xA, xA, xA, xA, xA, xA, xA, xA, xA, xA, xA, xA, xA, xA, xA, xA, xA, xA, xA, xA, xA, xA, xA, xA, xA, xA, xA, xA, NV i, e, xA, xA, xA, xA, xA, xA, xA, xA, xA, xA, xA, xA, xA, xA, xA, xA, xA, xA, xA, xA, xA, xA, xA, xA, xA, xA, xA, xA, xA, xA, xA, xA, xA, xA, xA, xA, xA, xA, xA, xA, xA, xA, xA, xA, xA, xA, xA, xA, xA, xA, .any]
set_option maxRecDepth 8000 in
theorem take_dias (h m W : List UInt32) (r : Nat) (hlr : r < 10) (hml : m.length = 16) (er : W.length = 16) (Q : Exit → St → Go.EW.Tok → Prop) (hQ : ∀ n, Q (.exit 6) ⟨tk6 r 4 (.lit (.bool false)), ofO (hk4 h m (diasS m r W 4) r), n⟩ .on) :
  LoopT Tryz.prog 1 (hid b_btake_97) Q ⟨tk6 r 0 .any, ofO (hk4 h m W r), 4⟩ := by
 refine eloop (α := Nat) (fun i => i ≤ 4) (fun i => 4 - i) (fun i => tk6 r i .any) (fun i => hk4 h m (diasS m r W i) r) 0 [0, 1, 2, 3]
  (by omega) (by simp [tk6, NV]) (by simp [hk4, hB2, wB, diasS]) (by simp [hk4, hB2, wB]) (by simp) (by simp [hk4]) ?_
 intro i hi
 have ei2 : (diasS m r W i).length = 16 := by rw [diasS_len]; exact er
 by_cases hli : i < 4
 ·have ii : (i : Int) < 4 := by omega
  have wi1 := wS (i := i) (by omega)
  have wi2 : IntKind.i64.wrap ((i : Int) + 2) = ((i + 2 : Nat) : Int) := wrap_i64 (by omega) (by omega)
  have wi3 : IntKind.i64.wrap ((i : Int) + 3) = ((i + 3 : Nat) : Int) := wrap_i64 (by omega) (by omega)
  obtain ⟨a1, ha1⟩ : ∃ a, (i + 1) % 4 = a := ⟨_, rfl⟩
  obtain ⟨a2, ha2⟩ : ∃ a, (i + 2) % 4 = a := ⟨_, rfl⟩
  obtain ⟨a3, ha3⟩ : ∃ a, (i + 3) % 4 = a := ⟨_, rfl⟩
  have m1 : ((i + 1 : Nat) : Int).tmod 4 = (a1 : Int) := by rw [← ha1]; rfl
  have m2 : ((i + 2 : Nat) : Int).tmod 4 = (a2 : Int) := by rw [← ha2]; rfl
  have m3 : ((i + 3 : Nat) : Int).tmod 4 = (a3 : Int) := by rw [← ha3]; rfl
  have w4 : IntKind.i64.wrap (4 + (a1 : Int)) = ((4 + a1 : Nat) : Int) := by rw [wrap_i64 (by omega) (by omega)]; omega
  have w8 : IntKind.i64.wrap (8 + (a2 : Int)) = ((8 + a2 : Nat) : Int) := by rw [wrap_i64 (by omega) (by omega)]; omega
  have w12 : IntKind.i64.wrap (12 + (a3 : Int)) = ((12 + a3 : Nat) : Int) := by rw [wrap_i64 (by omega) (by omega)]; omega
  have wc : IntKind.i64.wrap (2 * (i : Int)) = ((2 * i : Nat) : Int) := by rw [wrap_i64 (by omega) (by omega)]; omega
  have wa : IntKind.i64.wrap (8 + ((2 * i : Nat) : Int)) = ((8 + 2 * i : Nat) : Int) := by rw [wrap_i64 (by omega) (by omega)]; omega
  have wb : IntKind.i64.wrap (9 + ((2 * i : Nat) : Int)) = ((9 + 2 * i : Nat) : Int) := by rw [wrap_i64 (by omega) (by omega)]; omega
  have xa : ((8 + 2 * i : Nat) : Int) < 16 := by omega
  have xb : ((9 + 2 * i : Nat) : Int) < 16 := by omega
  have ol := ocB_len r
  have oa := ocB_get hlr (show 8 + 2 * i < 16 by omega)
  have ob := ocB_get hlr (show 9 + 2 * i < 16 by omega)
  have la : 8 + 2 * i < 16 := by omega
  have lb : 9 + 2 * i < 16 := by omega
  have sa := sN_lt r hlr (8 + 2 * i) (by omega)
  have sb := sN_lt r hlr (9 + 2 * i) (by omega)
  have ta : (sN r (8 + 2 * i) : Int) < 16 := by omega
  have tb : (sN r (9 + 2 * i) : Int) < 16 := by omega
  simp [tk6, hk4, wB, hB2, NV, ii, wi1, wi2, wi3, m1, m2, m3, w4, w8, w12, wc, wa, wb, xa, xb, ol, la, lb, hc_d0, hc_gE, oa, ob, sa, sb, ta, tb, hml, wl_gE, -Int.natCast_add, -Int.natCast_mul]
  refine callH [2] (mix_ok (diasS m r W i) i (4 + a1) (8 + a2) (12 + a3) (g m (sN r (8 + 2 * i))) (g m (sN r (9 + 2 * i))) ei2 (by omega) (by omega) (by omega) (by omega)) (by simp [NV, WV]) (by simp [VO]) (by simp) (by simp) (by simp) ?_
  rintro y H' ⟨rfl, rfl⟩
  refine ⟨.inl (by simp), by simp, ?_⟩
  simp [VO, wi1, -Int.natCast_add]
  exact round (i + 1) [0, 1, 2, 3] (by omega) (by omega) (by simp [tk6, NV]) (by simp [hk4, hB2, wB, diasS, diaS, ha1, ha2, ha3]) (by simp [hk4, hB2, wB]) (by simp) (by simp [hk4])
 ·have h4 : i = 4 := by omega
  subst h4
  simp [tk6, hk4, NV]
  exact hQ _
def tk2 (r : Nat) (e : EV) : List EV := [.v (.c (.ptr 0 0)), xA, xA, xA, xA, xA, xA, xA, .v (.c (.ptr 1 0)), .v (.c (.ptr 2 0)), xA, xA, xA, xA, xA, xA, xA, xA, xA, xA, xA, xA, xA, xA, xA, xA, xA, xA, xA, xA, xA, xA, xA, xA, xA, xA, xA, xA, xA, xA, xA, xA, xA, xA, xA, xA, xA, xA, xA, xA, xA, xA, xA, xA, xA, xA, xA, xA, xA, xA, xA, xA, xA, xA, xA, xA, xA, xA, xA, xA, xA, xA, xA, xA, xA, xA, xA, xA, xA, NV r, e, xA, xA, xA, xA, xA, xA, xA, xA, xA, xA, xA, xA, xA, xA, xA, xA, xA, xA, xA, xA, xA, xA, xA, xA, xA, xA, xA, xA, xA, xA, xA, xA, xA, xA, xA, xA, xA, xA, xA, xA, xA, xA, xA, xA, xA, xA, xA, xA, xA, xA, xA, xA, xA, xA, xA, xA, xA, xA, xA, xA, xA, xA, xA, xA, xA, xA, xA, xA, xA, xA, xA, xA, xA, xA, xA, xA, xA, xA, xA, xA, xA, .any]
def hk2 (h m v : List UInt32) : List (Option EO) := [hB2 h, wB m, wB v]
@[simp] theorem hk2_len (h m v : List UInt32) : (hk2 h m v).length = 3 := rfl
set_option maxRecDepth 8000 in
theorem take_rnds (h m v3 : List UInt32) (hml : m.length = 16) (e3 : v3.length = 16) (Q : Exit → St → Go.EW.Tok → Prop) (hQ : ∀ n, Q (.exit 2) ⟨tk2 10 (.lit (.bool false)), ofO (hk2 h m (rndsS m v3 10)), n⟩ .on) :
  LoopT Tryz.prog 1 (hid b_btake_109) Q ⟨tk2 0 .any, ofO (hk2 h m v3), 3⟩ := by
 refine eloop (α := Nat) (fun r => r ≤ 10) (fun r => 10 - r) (fun r => tk2 r .any) (fun r => hk2 h m (rndsS m v3 r)) 0 [0, 1, 2]
  (by omega) (by simp [tk2, NV]) (by simp [hk2, hB2, wB, rndsS]) (by simp [hk2, hB2, wB]) (by simp) (by simp [hk2]) ?_
 intro r hr
 have er : (rndsS m v3 r).length = 16 := by rw [rndsS_len]; exact e3
 by_cases hlr : r < 10
 ·have ir : (r : Int) < 10 := by omega
  have wr : IntKind.i64.wrap ((r : Int) + 1) = ((r + 1 : Nat) : Int) := wrap_i64 (by omega) (by omega)
  have lr : 16 ≤ 160 - r * 16 := by omega
  have hoc := oc_eq r hlr
  simp [tk2, hk2, wB, hB2, NV, hlr, ir, lr, hoc, ordN_len, ocB_len r]
  obtain ⟨V, hV⟩ : ∃ V, rndsS m v3 r = V := ⟨_, rfl⟩
  rw [hV] at er
  refine loopW _ (weak_norm [0, 1, 2, 99] (tk4 r 0 .any) (hk4 h m V r) (by simp [tk4, NV]) (by simp [hk4, hB2, wB, hV, hoc]) (by simp [hk4, hB2, wB]) (by simp) (by simp [hk4])) (take_cols h m V r hlr hml er _ fun n => ?_)
  simp [tk4, hk4, NV]
  obtain ⟨W, hW⟩ : ∃ W, colsS m r V 4 = W := ⟨_, rfl⟩
  have ei : W.length = 16 := by rw [← hW, colsS_len]; exact er
  refine loopW _ (weak_norm [0, 1, 2, 3] (tk6 r 0 .any) (hk4 h m W r) (by simp [tk6, NV]) (by simp [hk4, hB2, wB, hW]) (by simp [hk4, hB2, wB]) (by simp) (by simp [hk4])) (take_dias h m W r hlr hml ei _ fun n => ?_)
  simp [tk6, hk4, wB, hB2, NV, wr, -Int.natCast_add]
  exact round (r + 1) [0, 1, 2] (by omega) (by omega) (by simp [tk2, NV]) (by simp [hk2, hB2, wB, rndsS, hV, hW]) (by simp [hk2, hB2, wB]) (by simp) (by simp [hk2])
 ·have h10 : r = 10 := by omega
  subst h10
  simp [tk2, hk2, NV]
  exact hQ _
def tk8 (i : Nat) (e : EV) : List EV := [.v (.c (.ptr 0 0)), xA, xA, xA, xA, xA, xA, xA, xA, .v (.c (.ptr 1 0)), xA, xA, xA, xA, xA, xA, xA, xA, xA, xA, xA, xA, xA, xA, xA, xA, xA, xA, xA, xA, xA, xA, xA, xA, xA, xA, xA, xA, xA, xA, xA, xA, xA, xA, xA, xA, xA, xA, xA, xA, xA, xA, xA, xA, xA, xA, xA, xA, xA, xA, xA, xA, xA, xA, xA, xA, xA, xA, xA, xA, xA, xA, xA, xA, xA, xA, xA, xA, xA, xA, xA, xA, xA, xA, xA, xA, xA, xA, xA, xA, xA, xA, xA, xA, xA, xA, xA, xA, xA, xA, xA, xA, xA, xA, xA, xA, xA, xA, xA, xA, xA, xA, xA, xA, xA, xA, xA, xA, xA, xA, xA, xA, xA, xA, xA, xA, xA, xA, xA, xA, xA, xA, xA, xA, xA, xA, xA, xA, xA, xA, xA, xA, xA, NV i, e, xA, xA, xA, xA, xA, xA, xA, xA, xA, xA, xA, xA, xA, xA, xA, xA, xA, .any]
set_option maxRecDepth 8000 in
theorem take_xor (h V : List UInt32) (hh : h.length = 8) (er : V.length = 16) (Q : Exit → St → Go.EW.Tok → Prop) (hQ : ∀ n, Q (.exit 8) ⟨tk8 8 (.lit (.bool false)), ofO [hB2 (xorS h V 8), wB V], n⟩ .on) :
  LoopT Tryz.prog 1 (hid b_btake_130) Q ⟨tk8 0 .any, ofO [hB2 h, wB V], 2⟩ := by
 refine eloop (α := Nat) (fun i => i ≤ 8) (fun i => 8 - i) (fun i => tk8 i .any) (fun i => [hB2 (xorS h V i), wB V]) 0 [0, 1]
  (by omega) (by simp [tk8, NV]) (by simp [hB2, wB, xorS]) (by simp [hB2, wB]) (by simp) (by simp) ?_
 intro i hi
 have ei : (xorS h V i).length = 8 := by rw [xorS_len]; exact hh
 by_cases hli : i < 8
 ·have ii : (i : Int) < 8 := by omega
  have ij : (i : Int) < 16 := by omega
  have xl : i ≤ 7 := by omega
  have l16 : i < 16 := by omega
  have l8 : 8 + i < 16 := by omega
  have wi1 := wS (i := i) (by omega)
  have w8 : IntKind.i64.wrap (8 + (i : Int)) = ((8 + i : Nat) : Int) := by rw [wrap_i64 (by omega) (by omega)]; omega
  have j8 : ((8 + i : Nat) : Int) < 16 := by omega
  simp [tk8, hB2, wB, NV, ii, ij, xl, l16, l8, hli, wi1, w8, j8, ei, er, wl_gE, wl_put, wi_xor, -Int.natCast_add]
  exact round (i + 1) [0, 1] (by omega) (by omega) (by simp [tk8, NV]) (by simp [hB2, wB, xorS]) (by simp [hB2, wB]) (by simp) (by simp)
 ·have h8 : i = 8 := by omega
  subst h8
  simp [tk8, NV]
  exact hQ _
set_option maxRecDepth 8000 in
theorem btake_ok (h : List UInt32) (b : List UInt8) (t : Nat) (last : Bool) (hh : h.length = 8) (hb : b.length = 64) (ht : t < 18446744073709551616) :
  ECalls Tryz.prog 157 [.v (.c (.ptr 0 0)), BV b, .lit (.int .u64 t), .lit (.bool last)] [HO h] fun y H' => H' = [some (HO (takeS h b t last))] ∧ y = .tup [] := by
 have z16 : wl (mI b 0) = List.replicate 16 (EC.fz (.lit (.int .u32 0))) := by simp [mI, upW]; rfl
 have zz : wl Z16 = List.replicate 16 (EC.fz (.lit (.int .u32 0))) := by simp [wl, Z16]; rfl
 have th : List.take 8 (wl h) = wl h := List.tkL (by simp [hh])
 have f1 := wf_flat h 16 (by omega)
 have f2 := wf_sum h 16 (by omega)
 refine ecalls k_btake ?_
 simp [c_btake, BV, HO, hb, hh]
 refine loopW _ (weak_norm [0, 1, 17, 33] (tk0 t last 0 .any) (hk0 h b 0) (by simp [tk0, NV]) (by simp [hk0, hB2, wB, z16, zz]) (by simp [hk0, hB2, wB]) (by simp) (by simp [hk0])) (take_words h b t last hb _ fun n => ?_)
 have hml : (mI b 16).length = 16 := upW_len _ _
 have z16l : Z16.length = 16 := rfl
 have dz : List.drop 8 (wl Z16) = wl (Z16.drop 8) := wl_drop _ _
 simp [tk0, hk0, wB, hB2, NV, hb, hh, th, f1, f2, dz, wl_app, z16l]
 have tf : List.take 8 (wl firstW) = wl firstW := List.tkL (by simp; decide)
 have ff1 := wf_flat firstW 8 (by decide)
 have ff2 := wf_sum firstW 8 (by decide)
 have fl : firstW.length = 8 := rfl
 have tk : List.take 8 (wl (h ++ List.drop 8 Z16)) = wl h := by rw [wl_take, List.take_left' hh]
 have dk : List.drop 16 (wl (h ++ List.drop 8 Z16)) = [] := List.drop_of_length_le (by simp [hh, z16l])
 obtain ⟨v0, h0⟩ : ∃ w, h ++ firstW = w := ⟨_, rfl⟩
 have e0 : v0.length = 16 := by rw [← h0, List.length_append, hh, fl]
 obtain ⟨v1, h1⟩ : ∃ w, v0.set 12 (g v0 12 ^^^ lo32 t) = w := ⟨_, rfl⟩
 have e1 : v1.length = 16 := by rw [← h1, List.length_set]; exact e0
 obtain ⟨v2, h2⟩ : ∃ w, v1.set 13 (g v1 13 ^^^ hi32 t) = w := ⟨_, rfl⟩
 have e2 : v2.length = 16 := by rw [← h2, List.length_set]; exact e1
 have hini : iniS h t last = if last then v2.set 14 (~~~ g v2 14) else v2 := by unfold iniS; simp only [h0, h1, h2]
 have p12 : ∀ x, List.take 12 (wl v0) ++ .fz (.lit (.int .u32 (wi x))) :: List.drop 13 (wl v0) = wl (v0.set 12 x) := fun x => wl_put (by omega)
 have p13 : ∀ x, List.take 13 (wl v1) ++ .fz (.lit (.int .u32 (wi x))) :: List.drop 14 (wl v1) = wl (v1.set 13 x) := fun x => wl_put (by omega)
 have p14 : ∀ x, List.take 14 (wl v2) ++ .fz (.lit (.int .u32 (wi x))) :: List.drop 15 (wl v2) = wl (v2.set 14 x) := fun x => wl_put (by omega)
 refine call0 first_ok (by simp) ?_
 rintro y H' ⟨rfl, rfl⟩
 refine ⟨.inl (by simp), le_ok rfl, ?_⟩
 simp [NV, hb, hh, tf, ff1, ff2, fl, z16l, wl_app, tk, dk, h0, e0, e1, e2, wl_g, wl_gE, wi_xor, wi_lo, wi_hi, p12, p13, h1, h2]
 obtain ⟨v3, h3⟩ : ∃ w, iniS h t last = w := ⟨_, rfl⟩
 have e3 : v3.length = 16 := by rw [← h3, hini]; split <;> simp [e2]
 obtain ⟨m, hm⟩ : ∃ m, mI b 16 = m := ⟨_, rfl⟩
 rw [hm] at hml
 have er : (rndsS m v3 10).length = 16 := by rw [rndsS_len]; exact e3
 obtain ⟨V, hV⟩ : ∃ V, rndsS m v3 10 = V := ⟨_, rfl⟩
 rw [hV] at er
 have ht2 : takeS h b t last = xorS h V 8 := by unfold takeS; rw [hm, h3, hV]
 rw [ht2]
 refine alt (fun hl => ?_) (fun hl => ?_)
 case' refine_1 =>
  have h14 : v2.set 14 (~~~ g v2 14) = v3 := by rw [← h3, hini, if_pos hl]
  simp [e2, wl_g, wl_gE, pun_x32, p14, h14]
 case' refine_2 =>
  have h14 : v2 = v3 := by rw [← h3, hini, if_neg (by simpa using hl)]
  simp [h14]
 all_goals
  refine loopW _ (weak_norm [0, 2, 3] (tk2 0 .any) (hk2 h m v3) (by simp [tk2, NV]) (by simp [hk2, hB2, wB, hm]) (by simp [hk2, hB2, wB]) (by simp) (by simp [hk2])) (take_rnds h m v3 hml e3 _ fun n => ?_)
  simp [tk2, hk2, wB, hB2, NV]
  refine loopW _ (weak_norm [0, 2] (tk8 0 .any) [hB2 h, wB V] (by simp [tk8, NV]) (by simp [hB2, wB, hV]) (by simp [hB2, wB]) (by simp) (by simp)) (take_xor h V hh er _ fun n => ?_)
  simp [tk8, wB, hB2, NV]
  exact fin [] (by decide) rfl rfl (by simp [objsOut]) ⟨rfl, rfl⟩
def SO (r : Nat) (h : List UInt32) (n tt nn : Nat) : EO := .box 231 (wl h ++ [.row r n, .fz (.lit (.int .u64 tt)), .fz (.lit (.int .i64 nn))])
def RB (w : List UInt8) : EO := .row 5 1 (bsv w)
def hSB (h : List UInt32) (tt nn : Nat) : Option EO := some (SO 1 h 64 tt nn)
theorem wl_putR {v : List UInt32} {i : Nat} {x : UInt32} {r : List EC} (h : i < v.length) : List.take i (wl v ++ r) ++ .fz (.lit (.int .u32 (wi x))) :: List.drop (i + 1) (wl v ++ r) = wl (v.set i x) ++ r := by
 rw [List.take_append_of_le_length (by simp; omega), List.drop_append_of_le_length (by simp; omega), ← wl_put h]
 simp
theorem wl_gER {v : List UInt32} {i : Nat} {r : List EC} (h : i < v.length) (h2 : i < (wl v ++ r).length) : (wl v ++ r)[i]'h2 = .fz (.lit (.int .u32 (wi (g v i)))) := by
 rw [List.getElem_append_left (by simpa using h), wl_gE h]
theorem wl_gR {v : List UInt32} {i : Nat} {r : List EC} (h : i < v.length) : (wl v ++ r)[i]? = some (.fz (.lit (.int .u32 (wi (g v i))))) := by
 rw [List.getElem?_append_left (by simpa using h), wl_g h]
@[simp] theorem strAll_wlR (ids : List Nat) (l : List UInt32) (r : List EC) : strAll ids (wl l ++ r) = (strAll ids r).map (wl l ++ ·) := by
 induction l with
 | nil => simp [wl]
 | cons b t ih =>
  have e : wl (b :: t) ++ r = .fz (.lit (.int .u32 (wi b))) :: (wl t ++ r) := rfl
  rw [e]
  simp only [strAll, ih]
  cases strAll ids r <;> rfl
theorem wl_t8 {v : List UInt32} {r : List EC} (h : v.length = 8) : List.take 8 (wl v ++ r) = wl v := List.take_left' (by simpa using h)
def tb0 (t : Nat) (last : Bool) (i : Nat) (e : EV) : List EV := [.v (.c (.ptr 0 0)), xA, .lit (.int .u64 t), .lit (.bool last), xA, .v (.c (.ptr 2 0)), xA, xA, .v (.c (.ptr 3 0)), .v (.c (.ptr 4 0)), xA, xA, xA, xA, xA, xA, xA, NV i, e, xA, xA, xA, xA, xA, xA, xA, xA, xA, xA, xA, xA, xA, xA, xA, xA, xA, xA, xA, xA, xA, xA, xA, xA, xA, xA, xA, xA, xA, xA, xA, xA, xA, xA, xA, xA, xA, xA, xA, xA, xA, xA, xA, xA, xA, xA, xA, xA, xA, xA, xA, xA, xA, xA, xA, xA, xA, xA, xA, xA, xA, xA, xA, xA, xA, xA, xA, xA, xA, xA, xA, xA, xA, xA, xA, xA, xA, xA, xA, xA, xA, xA, xA, xA, xA, xA, xA, xA, xA, xA, xA, xA, xA, xA, xA, xA, xA, xA, xA, xA, xA, xA, xA, xA, xA, xA, xA, xA, xA, xA, xA, xA, xA, xA, xA, xA, xA, xA, xA, xA, xA, xA, xA, xA, xA, xA, xA, xA, xA, xA, xA, xA, xA, xA, xA, xA, xA, xA, xA, xA, xA, xA, xA, .any]
def hb0 (tt nn : Nat) (w : List UInt8) (h : List UInt32) (b : List UInt8) (i : Nat) : List (Option EO) := [hSB h tt nn, some (RB w), some (.box 285 (hc b)), wB (mI b i), wB Z16]
@[simp] theorem hb0_len (tt nn : Nat) (w : List UInt8) (h : List UInt32) (b : List UInt8) (i : Nat) : (hb0 tt nn w h b i).length = 5 := rfl
set_option maxRecDepth 8000 in
theorem takeB_words (tt nn : Nat) (w : List UInt8) (h : List UInt32) (b : List UInt8) (t : Nat) (last : Bool) (hb : b.length = 64) (Q : Exit → St → Go.EW.Tok → Prop) (hQ : ∀ n, Q (.exit 0) ⟨tb0 t last 16 (.lit (.bool false)), ofO (hb0 tt nn w h b 16), n⟩ .on) :
  LoopT Tryz.prog 2 (hid b_btake_25) Q ⟨tb0 t last 0 .any, ofO (hb0 tt nn w h b 0), 5⟩ := by
 refine eloop (α := Nat) (fun i => i ≤ 16) (fun i => 16 - i) (fun i => tb0 t last i .any) (fun i => hb0 tt nn w h b i) 0 [0, 1, 2, 3, 4]
  (by omega) (by simp [tb0, NV]) (by simp [hb0, hSB, SO, RB, wB]) (by simp [hb0, hSB, SO, RB, wB]) (by decide) (by simp [hb0]) ?_
 intro i hi
 have hml : (mI b i).length = 16 := upW_len _ _
 by_cases hlt : i < 16
 ·have il : (i : Int) < 16 := by omega
  have xl : i ≤ 15 := by omega
  obtain ⟨k, hk⟩ : ∃ k, k = 4 * i := ⟨_, rfl⟩
  have w0 : IntKind.i64.wrap (4 * (i : Int)) = (k : Int) := by rw [wrap_i64 (by omega) (by omega)]; omega
  have w1 : IntKind.i64.wrap ((k : Int) + 1) = ((k + 1 : Nat) : Int) := wrap_i64 (by omega) (by omega)
  have w2 : IntKind.i64.wrap ((k : Int) + 2) = ((k + 2 : Nat) : Int) := wrap_i64 (by omega) (by omega)
  have w3 : IntKind.i64.wrap ((k : Int) + 3) = ((k + 3 : Nat) : Int) := wrap_i64 (by omega) (by omega)
  have wi1 := wS (i := i) (by omega)
  have k0 : k < 64 := by omega
  have k1 : k + 1 < 64 := by omega
  have k2 : k + 2 < 64 := by omega
  have k3 : k + 3 < 64 := by omega
  have j0 : (k : Int) < 64 := by omega
  have j1 : ((k + 1 : Nat) : Int) < 64 := by omega
  have j2 : ((k + 2 : Nat) : Int) < 64 := by omega
  have j3 : ((k + 3 : Nat) : Int) < 64 := by omega
  have s8 : ∀ x, ishl .u32 (wi x) 8 = wi (shl x 8) := fun x => wi_shl x 8 (by omega)
  have s16 : ∀ x, ishl .u32 (wi x) 16 = wi (shl x 16) := fun x => wi_shl x 16 (by omega)
  have s24 : ∀ x, ishl .u32 (wi x) 24 = wi (shl x 24) := fun x => wi_shl x 24 (by omega)
  have hw : ((bw (g8 b k) ||| shl (bw (g8 b (k + 1))) 8) ||| shl (bw (g8 b (k + 2))) 16) ||| shl (bw (g8 b (k + 3))) 24 = wordS b i := by rw [hk]; rfl
  simp [tb0, hb0, wB, hSB, SO, RB, NV, il, xl, w0, w1, w2, w3, wi1, hb, k0, k1, k2, k3, j0, j1, j2, j3, s8, s16, s24, hc_gE, hc_d0, wi_bw, wi_or, hw, hml, hlt, wl_put, wl_putR, wl_gER, wl_gR, mI_set, -Int.natCast_add]
  exact round (i + 1) [0, 1, 2, 3, 4] (by omega) (by omega) (by simp [tb0, NV]) (by simp [hb0, hSB, SO, RB, wB]) (by simp [hb0, hSB, SO, RB, wB]) (by decide) (by simp [hb0])
 ·have hi16 : i = 16 := by omega
  subst hi16
  simp [tb0, hb0, NV]
  exact hQ _
def tb4 (r i : Nat) (e : EV) : List EV := [.v (.c (.ptr 0 0)), xA, xA, xA, xA, xA, xA, xA, .v (.c (.ptr 2 0)), .v (.c (.ptr 3 0)), xA, xA, xA, .v (.c (.ptr 4 0)), xA, xA, xA, xA, xA, xA, xA, xA, xA, xA, xA, xA, xA, xA, xA, xA, xA, xA, xA, xA, xA, xA, xA, xA, xA, xA, xA, xA, xA, xA, xA, xA, xA, xA, xA, xA, xA, xA, xA, xA, xA, xA, xA, xA, xA, xA, xA, xA, xA, xA, xA, xA, xA, xA, xA, xA, xA, xA, xA, xA, xA, xA, xA, xA, xA, NV r, xA, xA, xA, xA, xA, NV i, e, xA, xA, xA, xA, xA, xA, xA, xA, xA, xA, xA, xA, xA, xA, xA, xA, xA, xA, xA, xA, xA, xA, xA, xA, xA, xA, xA, xA, xA, xA, xA, xA, xA, xA, xA, xA, xA, xA, xA, xA, xA, xA, xA, xA, xA, xA, xA, xA, xA, xA, xA, xA, xA, xA, xA, xA, xA, xA, xA, xA, xA, xA, xA, xA, xA, xA, xA, xA, xA, xA, xA, xA, xA, xA, xA, .any]
def hb4 (tt nn : Nat) (w : List UInt8) (h m v : List UInt32) (r : Nat) : List (Option EO) := [hSB h tt nn, some (RB w), wB m, wB v, some (.box 305 (hc (ocB r)))]
@[simp] theorem hb4_len (tt nn : Nat) (w : List UInt8) (h m v : List UInt32) (r : Nat) : (hb4 tt nn w h m v r).length = 5 := rfl
set_option maxRecDepth 8000 in
theorem takeB_cols (tt nn : Nat) (w : List UInt8) (h m V : List UInt32) (r : Nat) (hlr : r < 10) (hml : m.length = 16) (er : V.length = 16) (Q : Exit → St → Go.EW.Tok → Prop) (hQ : ∀ n, Q (.exit 4) ⟨tb4 r 4 (.lit (.bool false)), ofO (hb4 tt nn w h m (colsS m r V 4) r), n⟩ .on) :
  LoopT Tryz.prog 2 (hid b_btake_74) Q ⟨tb4 r 0 .any, ofO (hb4 tt nn w h m V r), 5⟩ := by
 refine eloop (α := Nat) (fun i => i ≤ 4) (fun i => 4 - i) (fun i => tb4 r i .any) (fun i => hb4 tt nn w h m (colsS m r V i) r) 0 [0, 1, 2, 3, 4]
  (by omega) (by simp [tb4, NV]) (by simp [hb4, hSB, SO, RB, wB, colsS]) (by simp [hb4, hSB, SO, RB, wB]) (by decide) (by simp [hb4]) ?_
 intro i hi
 have ei : (colsS m r V i).length = 16 := by rw [colsS_len]; exact er
 by_cases hli : i < 4
 ·have ii : (i : Int) < 4 := by omega
  have wi1 := wS (i := i) (by omega)
  have w4 : IntKind.i64.wrap (4 + (i : Int)) = ((4 + i : Nat) : Int) := by rw [wrap_i64 (by omega) (by omega)]; omega
  have w8 : IntKind.i64.wrap (8 + (i : Int)) = ((8 + i : Nat) : Int) := by rw [wrap_i64 (by omega) (by omega)]; omega
  have w12 : IntKind.i64.wrap (12 + (i : Int)) = ((12 + i : Nat) : Int) := by rw [wrap_i64 (by omega) (by omega)]; omega
  have wa : IntKind.i64.wrap (2 * (i : Int)) = ((2 * i : Nat) : Int) := by rw [wrap_i64 (by omega) (by omega)]; omega
  have wb : IntKind.i64.wrap (((2 * i : Nat) : Int) + 1) = ((2 * i + 1 : Nat) : Int) := wrap_i64 (by omega) (by omega)
  have xa : ((2 * i : Nat) : Int) < 16 := by omega
  have xb : ((2 * i + 1 : Nat) : Int) < 16 := by omega
  have ol := ocB_len r
  have oa := ocB_get hlr (show 2 * i < 16 by omega)
  have ob := ocB_get hlr (show 2 * i + 1 < 16 by omega)
  have la : 2 * i < 16 := by omega
  have lb : 2 * i + 1 < 16 := by omega
  have sa := sN_lt r hlr (2 * i) (by omega)
  have sb := sN_lt r hlr (2 * i + 1) (by omega)
  have ta : (sN r (2 * i) : Int) < 16 := by omega
  have tb : (sN r (2 * i + 1) : Int) < 16 := by omega
  simp [tb4, hb4, wB, hSB, SO, RB, NV, ii, w4, w8, w12, wa, wb, xa, xb, ol, la, lb, hc_d0, hc_gE, oa, ob, sa, sb, ta, tb, hml, wl_gE, -Int.natCast_add, -Int.natCast_mul]
  refine callH [3] (mix_ok (colsS m r V i) i (4 + i) (8 + i) (12 + i) (g m (sN r (2 * i))) (g m (sN r (2 * i + 1))) ei (by omega) (by omega) (by omega) (by omega)) (by simp [NV, WV]) (by simp [VO]) (by simp) (by simp) (by simp) ?_
  rintro y H' ⟨rfl, rfl⟩
  refine ⟨.inl (by simp), by simp, ?_⟩
  simp [VO, wi1, -Int.natCast_add]
  exact round (i + 1) [0, 1, 2, 3, 4] (by omega) (by omega) (by simp [tb4, NV]) (by simp [hb4, hSB, SO, RB, wB, colsS, colS]) (by simp [hb4, hSB, SO, RB, wB]) (by decide) (by simp [hb4])
 ·have h4 : i = 4 := by omega
  subst h4
  simp [tb4, hb4, NV]
  exact hQ _
def tb6 (r i : Nat) (e : EV) : List EV := [.v (.c (.ptr 0 0)), xA, xA, xA, xA, xA, xA, xA, .v (.c (.ptr 2 0)), .v (.c (.ptr 3 0)), xA, xA, xA, .v (.c (.ptr 4 0)), xA, xA, xA, xA, xA, xA, xA, xA, xA, xA, xA, xA, xA, xA, xA, xA, xA, xA, xA, xA, xA, xA, xA, xA, xA, xA, xA, xA, xA, xA, xA, xA, xA, xA, xA, xA, xA, xA, xA, xA, xA, xA, xA, xA, xA, xA, xA, xA, xA, xA, xA, xA, xA, xA, xA, xA, xA, xA, xA, xA, xA, xA, xA, xA, xA, NV r, xA, xA, xA, xA, xA, xA, xA, xA, xA, xA, xA, xA, xA, xA, xA, xA, xA, xA, xA, xA, xA, xA, xA, xA, xA, xA, xA, xA, xA, xA, NV i, e, xA, xA, xA, xA, xA, xA, xA, xA, xA, xA, xA, xA, xA, xA, xA, xA, xA, xA, xA, xA, xA, xA, xA, xA, xA, xA, xA, xA, xA, xA, xA, xA, xA, xA, xA, xA, xA, xA, xA, xA, xA, xA, xA, xA, xA, xA, xA, xA, xA, xA, .any]
set_option maxRecDepth 8000 in
theorem takeB_dias (tt nn : Nat) (w : List UInt8) (h m W : List UInt32) (r : Nat) (hlr : r < 10) (hml : m.length = 16) (er : W.length = 16) (Q : Exit → St → Go.EW.Tok → Prop) (hQ : ∀ n, Q (.exit 6) ⟨tb6 r 4 (.lit (.bool false)), ofO (hb4 tt nn w h m (diasS m r W 4) r), n⟩ .on) :
  LoopT Tryz.prog 2 (hid b_btake_97) Q ⟨tb6 r 0 .any, ofO (hb4 tt nn w h m W r), 5⟩ := by
 refine eloop (α := Nat) (fun i => i ≤ 4) (fun i => 4 - i) (fun i => tb6 r i .any) (fun i => hb4 tt nn w h m (diasS m r W i) r) 0 [0, 1, 2, 3, 4]
  (by omega) (by simp [tb6, NV]) (by simp [hb4, hSB, SO, RB, wB, diasS]) (by simp [hb4, hSB, SO, RB, wB]) (by decide) (by simp [hb4]) ?_
 intro i hi
 have ei2 : (diasS m r W i).length = 16 := by rw [diasS_len]; exact er
 by_cases hli : i < 4
 ·have ii : (i : Int) < 4 := by omega
  have wi1 := wS (i := i) (by omega)
  have wi2 : IntKind.i64.wrap ((i : Int) + 2) = ((i + 2 : Nat) : Int) := wrap_i64 (by omega) (by omega)
  have wi3 : IntKind.i64.wrap ((i : Int) + 3) = ((i + 3 : Nat) : Int) := wrap_i64 (by omega) (by omega)
  obtain ⟨a1, ha1⟩ : ∃ a, (i + 1) % 4 = a := ⟨_, rfl⟩
  obtain ⟨a2, ha2⟩ : ∃ a, (i + 2) % 4 = a := ⟨_, rfl⟩
  obtain ⟨a3, ha3⟩ : ∃ a, (i + 3) % 4 = a := ⟨_, rfl⟩
  have m1 : ((i + 1 : Nat) : Int).tmod 4 = (a1 : Int) := by rw [← ha1]; rfl
  have m2 : ((i + 2 : Nat) : Int).tmod 4 = (a2 : Int) := by rw [← ha2]; rfl
  have m3 : ((i + 3 : Nat) : Int).tmod 4 = (a3 : Int) := by rw [← ha3]; rfl
  have w4 : IntKind.i64.wrap (4 + (a1 : Int)) = ((4 + a1 : Nat) : Int) := by rw [wrap_i64 (by omega) (by omega)]; omega
  have w8 : IntKind.i64.wrap (8 + (a2 : Int)) = ((8 + a2 : Nat) : Int) := by rw [wrap_i64 (by omega) (by omega)]; omega
  have w12 : IntKind.i64.wrap (12 + (a3 : Int)) = ((12 + a3 : Nat) : Int) := by rw [wrap_i64 (by omega) (by omega)]; omega
  have wc : IntKind.i64.wrap (2 * (i : Int)) = ((2 * i : Nat) : Int) := by rw [wrap_i64 (by omega) (by omega)]; omega
  have wa : IntKind.i64.wrap (8 + ((2 * i : Nat) : Int)) = ((8 + 2 * i : Nat) : Int) := by rw [wrap_i64 (by omega) (by omega)]; omega
  have wb : IntKind.i64.wrap (9 + ((2 * i : Nat) : Int)) = ((9 + 2 * i : Nat) : Int) := by rw [wrap_i64 (by omega) (by omega)]; omega
  have xa : ((8 + 2 * i : Nat) : Int) < 16 := by omega
  have xb : ((9 + 2 * i : Nat) : Int) < 16 := by omega
  have ol := ocB_len r
  have oa := ocB_get hlr (show 8 + 2 * i < 16 by omega)
  have ob := ocB_get hlr (show 9 + 2 * i < 16 by omega)
  have la : 8 + 2 * i < 16 := by omega
  have lb : 9 + 2 * i < 16 := by omega
  have sa := sN_lt r hlr (8 + 2 * i) (by omega)
  have sb := sN_lt r hlr (9 + 2 * i) (by omega)
  have ta : (sN r (8 + 2 * i) : Int) < 16 := by omega
  have tb : (sN r (9 + 2 * i) : Int) < 16 := by omega
  simp [tb6, hb4, wB, hSB, SO, RB, NV, ii, wi1, wi2, wi3, m1, m2, m3, w4, w8, w12, wc, wa, wb, xa, xb, ol, la, lb, hc_d0, hc_gE, oa, ob, sa, sb, ta, tb, hml, wl_gE, -Int.natCast_add, -Int.natCast_mul]
  refine callH [3] (mix_ok (diasS m r W i) i (4 + a1) (8 + a2) (12 + a3) (g m (sN r (8 + 2 * i))) (g m (sN r (9 + 2 * i))) ei2 (by omega) (by omega) (by omega) (by omega)) (by simp [NV, WV]) (by simp [VO]) (by simp) (by simp) (by simp) ?_
  rintro y H' ⟨rfl, rfl⟩
  refine ⟨.inl (by simp), by simp, ?_⟩
  simp [VO, wi1, -Int.natCast_add]
  exact round (i + 1) [0, 1, 2, 3, 4] (by omega) (by omega) (by simp [tb6, NV]) (by simp [hb4, hSB, SO, RB, wB, diasS, diaS, ha1, ha2, ha3]) (by simp [hb4, hSB, SO, RB, wB]) (by decide) (by simp [hb4])
 ·have h4 : i = 4 := by omega
  subst h4
  simp [tb6, hb4, NV]
  exact hQ _
def tb2 (r : Nat) (e : EV) : List EV := [.v (.c (.ptr 0 0)), xA, xA, xA, xA, xA, xA, xA, .v (.c (.ptr 2 0)), .v (.c (.ptr 3 0)), xA, xA, xA, xA, xA, xA, xA, xA, xA, xA, xA, xA, xA, xA, xA, xA, xA, xA, xA, xA, xA, xA, xA, xA, xA, xA, xA, xA, xA, xA, xA, xA, xA, xA, xA, xA, xA, xA, xA, xA, xA, xA, xA, xA, xA, xA, xA, xA, xA, xA, xA, xA, xA, xA, xA, xA, xA, xA, xA, xA, xA, xA, xA, xA, xA, xA, xA, xA, xA, NV r, e, xA, xA, xA, xA, xA, xA, xA, xA, xA, xA, xA, xA, xA, xA, xA, xA, xA, xA, xA, xA, xA, xA, xA, xA, xA, xA, xA, xA, xA, xA, xA, xA, xA, xA, xA, xA, xA, xA, xA, xA, xA, xA, xA, xA, xA, xA, xA, xA, xA, xA, xA, xA, xA, xA, xA, xA, xA, xA, xA, xA, xA, xA, xA, xA, xA, xA, xA, xA, xA, xA, xA, xA, xA, xA, xA, xA, xA, xA, xA, xA, xA, .any]
def hb2 (tt nn : Nat) (w : List UInt8) (h m v : List UInt32) : List (Option EO) := [hSB h tt nn, some (RB w), wB m, wB v]
@[simp] theorem hb2_len (tt nn : Nat) (w : List UInt8) (h m v : List UInt32) : (hb2 tt nn w h m v).length = 4 := rfl
set_option maxRecDepth 8000 in
theorem takeB_rnds (tt nn : Nat) (w : List UInt8) (h m v3 : List UInt32) (hml : m.length = 16) (e3 : v3.length = 16) (Q : Exit → St → Go.EW.Tok → Prop) (hQ : ∀ n, Q (.exit 2) ⟨tb2 10 (.lit (.bool false)), ofO (hb2 tt nn w h m (rndsS m v3 10)), n⟩ .on) :
  LoopT Tryz.prog 2 (hid b_btake_109) Q ⟨tb2 0 .any, ofO (hb2 tt nn w h m v3), 4⟩ := by
 refine eloop (α := Nat) (fun r => r ≤ 10) (fun r => 10 - r) (fun r => tb2 r .any) (fun r => hb2 tt nn w h m (rndsS m v3 r)) 0 [0, 1, 2, 3]
  (by omega) (by simp [tb2, NV]) (by simp [hb2, hSB, SO, RB, wB, rndsS]) (by simp [hb2, hSB, SO, RB, wB]) (by decide) (by simp [hb2]) ?_
 intro r hr
 have er : (rndsS m v3 r).length = 16 := by rw [rndsS_len]; exact e3
 by_cases hlr : r < 10
 ·have ir : (r : Int) < 10 := by omega
  have wr : IntKind.i64.wrap ((r : Int) + 1) = ((r + 1 : Nat) : Int) := wrap_i64 (by omega) (by omega)
  have lr : 16 ≤ 160 - r * 16 := by omega
  have hoc := oc_eq r hlr
  simp [tb2, hb2, wB, hSB, SO, RB, NV, hlr, ir, lr, hoc, ordN_len, ocB_len r]
  obtain ⟨V, hV⟩ : ∃ V, rndsS m v3 r = V := ⟨_, rfl⟩
  rw [hV] at er
  refine loopW _ (weak_norm [0, 1, 2, 3, 100] (tb4 r 0 .any) (hb4 tt nn w h m V r) (by simp [tb4, NV]) (by simp [hb4, hSB, SO, RB, wB, hV, hoc]) (by simp [hb4, hSB, SO, RB, wB]) (by decide) (by simp [hb4])) (takeB_cols tt nn w h m V r hlr hml er _ fun n => ?_)
  simp [tb4, hb4, NV]
  obtain ⟨W, hW⟩ : ∃ W, colsS m r V 4 = W := ⟨_, rfl⟩
  have ei : W.length = 16 := by rw [← hW, colsS_len]; exact er
  refine loopW _ (weak_norm [0, 1, 2, 3, 4] (tb6 r 0 .any) (hb4 tt nn w h m W r) (by simp [tb6, NV]) (by simp [hb4, hSB, SO, RB, wB, hW]) (by simp [hb4, hSB, SO, RB, wB]) (by decide) (by simp [hb4])) (takeB_dias tt nn w h m W r hlr hml ei _ fun n => ?_)
  simp [tb6, hb4, wB, hSB, SO, RB, NV, wr, -Int.natCast_add]
  exact round (r + 1) [0, 1, 2, 3] (by omega) (by omega) (by simp [tb2, NV]) (by simp [hb2, hSB, SO, RB, wB, rndsS, hV, hW]) (by simp [hb2, hSB, SO, RB, wB]) (by decide) (by simp [hb2])
 ·have h10 : r = 10 := by omega
  subst h10
  simp [tb2, hb2, NV]
  exact hQ _
def tb8 (i : Nat) (e : EV) : List EV := [.v (.c (.ptr 0 0)), xA, xA, xA, xA, xA, xA, xA, xA, .v (.c (.ptr 2 0)), xA, xA, xA, xA, xA, xA, xA, xA, xA, xA, xA, xA, xA, xA, xA, xA, xA, xA, xA, xA, xA, xA, xA, xA, xA, xA, xA, xA, xA, xA, xA, xA, xA, xA, xA, xA, xA, xA, xA, xA, xA, xA, xA, xA, xA, xA, xA, xA, xA, xA, xA, xA, xA, xA, xA, xA, xA, xA, xA, xA, xA, xA, xA, xA, xA, xA, xA, xA, xA, xA, xA, xA, xA, xA, xA, xA, xA, xA, xA, xA, xA, xA, xA, xA, xA, xA, xA, xA, xA, xA, xA, xA, xA, xA, xA, xA, xA, xA, xA, xA, xA, xA, xA, xA, xA, xA, xA, xA, xA, xA, xA, xA, xA, xA, xA, xA, xA, xA, xA, xA, xA, xA, xA, xA, xA, xA, xA, xA, xA, xA, xA, xA, xA, NV i, e, xA, xA, xA, xA, xA, xA, xA, xA, xA, xA, xA, xA, xA, xA, xA, xA, xA, .any]
set_option maxRecDepth 8000 in
theorem takeB_xor (tt nn : Nat) (w : List UInt8) (h V : List UInt32) (hh : h.length = 8) (er : V.length = 16) (Q : Exit → St → Go.EW.Tok → Prop) (hQ : ∀ n, Q (.exit 8) ⟨tb8 8 (.lit (.bool false)), ofO [hSB (xorS h V 8) tt nn, some (RB w), wB V], n⟩ .on) :
  LoopT Tryz.prog 2 (hid b_btake_130) Q ⟨tb8 0 .any, ofO [hSB h tt nn, some (RB w), wB V], 3⟩ := by
 refine eloop (α := Nat) (fun i => i ≤ 8) (fun i => 8 - i) (fun i => tb8 i .any) (fun i => [hSB (xorS h V i) tt nn, some (RB w), wB V]) 0 [0, 1, 2]
  (by omega) (by simp [tb8, NV]) (by simp [hSB, SO, RB, wB, xorS]) (by simp [hSB, SO, RB, wB]) (by decide) (by simp) ?_
 intro i hi
 have ei : (xorS h V i).length = 8 := by rw [xorS_len]; exact hh
 by_cases hli : i < 8
 ·have ii : (i : Int) < 8 := by omega
  have ij : (i : Int) < 16 := by omega
  have xl : i ≤ 7 := by omega
  have xl2 : i ≤ 10 := by omega
  have l16 : i < 16 := by omega
  have l8 : 8 + i < 16 := by omega
  have wi1 := wS (i := i) (by omega)
  have w8 : IntKind.i64.wrap (8 + (i : Int)) = ((8 + i : Nat) : Int) := by rw [wrap_i64 (by omega) (by omega)]; omega
  have j8 : ((8 + i : Nat) : Int) < 16 := by omega
  simp [tb8, hSB, SO, RB, wB, NV, ii, ij, xl, xl2, l16, l8, hli, wi1, w8, j8, ei, er, wl_gE, wl_put, wl_putR, wl_gER, wl_gR, wi_xor, -Int.natCast_add]
  exact round (i + 1) [0, 1, 2] (by omega) (by omega) (by simp [tb8, NV]) (by simp [hSB, SO, RB, wB, xorS]) (by simp [hSB, SO, RB, wB]) (by decide) (by simp)
 ·have h8 : i = 8 := by omega
  subst h8
  simp [tb8, NV]
  exact hQ _
set_option maxRecDepth 8000 in
theorem takeB_ok (tt nn : Nat) (w : List UInt8) (h : List UInt32) (b : List UInt8) (t : Nat) (last : Bool) (hh : h.length = 8) (hb : b.length = 64) (ht : t < 18446744073709551616) :
  ECalls Tryz.prog 157 [.v (.c (.ptr 0 0)), BV b, .lit (.int .u64 t), .lit (.bool last)] [SO 1 h 64 tt nn, RB w] fun y H' => H' = [some (SO 1 (takeS h b t last) 64 tt nn), some (RB w)] ∧ y = .tup [] := by
 have z16 : wl (mI b 0) = List.replicate 16 (EC.fz (.lit (.int .u32 0))) := by simp [mI, upW]; rfl
 have zz : wl Z16 = List.replicate 16 (EC.fz (.lit (.int .u32 0))) := by simp [wl, Z16]; rfl
 have th : ∀ r, List.take 8 (wl h ++ r) = wl h := fun r => wl_t8 hh
 have th' : List.take 8 (wl h) = wl h := List.tkL (by simp [hh])
 have f1 := wf_flat h 16 (by omega)
 have f2 := wf_sum h 16 (by omega)
 refine ecalls k_btake ?_
 simp [c_btake, BV, SO, RB, hb, hh]
 refine loopW _ (weak_norm [0, 1, 2, 18, 34] (tb0 t last 0 .any) (hb0 tt nn w h b 0) (by simp [tb0, NV]) (by simp [hb0, hSB, SO, RB, wB, z16, zz]) (by simp [hb0, hSB, SO, RB, wB]) (by decide) (by simp [hb0])) (takeB_words tt nn w h b t last hb _ fun n => ?_)
 have hml : (mI b 16).length = 16 := upW_len _ _
 have z16l : Z16.length = 16 := rfl
 have dz : List.drop 8 (wl Z16) = wl (Z16.drop 8) := wl_drop _ _
 simp [tb0, hb0, wB, hSB, SO, RB, NV, hb, hh, th, th', f1, f2, dz, wl_app, z16l]
 have tf : List.take 8 (wl firstW) = wl firstW := List.tkL (by simp; decide)
 have ff1 := wf_flat firstW 8 (by decide)
 have ff2 := wf_sum firstW 8 (by decide)
 have fl : firstW.length = 8 := rfl
 have tk : List.take 8 (wl (h ++ List.drop 8 Z16)) = wl h := by rw [wl_take, List.take_left' hh]
 have dk : List.drop 16 (wl (h ++ List.drop 8 Z16)) = [] := List.drop_of_length_le (by simp [hh, z16l])
 obtain ⟨v0, h0⟩ : ∃ w, h ++ firstW = w := ⟨_, rfl⟩
 have e0 : v0.length = 16 := by rw [← h0, List.length_append, hh, fl]
 obtain ⟨v1, h1⟩ : ∃ w, v0.set 12 (g v0 12 ^^^ lo32 t) = w := ⟨_, rfl⟩
 have e1 : v1.length = 16 := by rw [← h1, List.length_set]; exact e0
 obtain ⟨v2, h2⟩ : ∃ w, v1.set 13 (g v1 13 ^^^ hi32 t) = w := ⟨_, rfl⟩
 have e2 : v2.length = 16 := by rw [← h2, List.length_set]; exact e1
 have hini : iniS h t last = if last then v2.set 14 (~~~ g v2 14) else v2 := by unfold iniS; simp only [h0, h1, h2]
 have p12 : ∀ x, List.take 12 (wl v0) ++ .fz (.lit (.int .u32 (wi x))) :: List.drop 13 (wl v0) = wl (v0.set 12 x) := fun x => wl_put (by omega)
 have p13 : ∀ x, List.take 13 (wl v1) ++ .fz (.lit (.int .u32 (wi x))) :: List.drop 14 (wl v1) = wl (v1.set 13 x) := fun x => wl_put (by omega)
 have p14 : ∀ x, List.take 14 (wl v2) ++ .fz (.lit (.int .u32 (wi x))) :: List.drop 15 (wl v2) = wl (v2.set 14 x) := fun x => wl_put (by omega)
 refine call0 first_ok (by simp) ?_
 rintro y H' ⟨rfl, rfl⟩
 refine ⟨.inl (by simp), le_ok rfl, ?_⟩
 simp [NV, hb, hh, tf, ff1, ff2, fl, z16l, wl_app, tk, dk, h0, e0, e1, e2, wl_g, wl_gE, wi_xor, wi_lo, wi_hi, p12, p13, h1, h2]
 obtain ⟨v3, h3⟩ : ∃ w, iniS h t last = w := ⟨_, rfl⟩
 have e3 : v3.length = 16 := by rw [← h3, hini]; split <;> simp [e2]
 obtain ⟨m, hm⟩ : ∃ m, mI b 16 = m := ⟨_, rfl⟩
 rw [hm] at hml
 have er : (rndsS m v3 10).length = 16 := by rw [rndsS_len]; exact e3
 obtain ⟨V, hV⟩ : ∃ V, rndsS m v3 10 = V := ⟨_, rfl⟩
 rw [hV] at er
 have ht2 : takeS h b t last = xorS h V 8 := by unfold takeS; rw [hm, h3, hV]
 rw [ht2]
 refine alt (fun hl => ?_) (fun hl => ?_)
 case' refine_1 =>
  have h14 : v2.set 14 (~~~ g v2 14) = v3 := by rw [← h3, hini, if_pos hl]
  simp [e2, wl_g, wl_gE, pun_x32, p14, h14]
 case' refine_2 =>
  have h14 : v2 = v3 := by rw [← h3, hini, if_neg (by simpa using hl)]
  simp [h14]
 all_goals
  refine loopW _ (weak_norm [0, 1, 3, 4] (tb2 0 .any) (hb2 tt nn w h m v3) (by simp [tb2, NV]) (by simp [hb2, hSB, SO, RB, wB, hm]) (by simp [hb2, hSB, SO, RB, wB]) (by decide) (by simp [hb2])) (takeB_rnds tt nn w h m v3 hml e3 _ fun n => ?_)
  simp [tb2, hb2, wB, hSB, SO, RB, NV]
  refine loopW _ (weak_norm [0, 1, 3] (tb8 0 .any) [hSB h tt nn, some (RB w), wB V] (by simp [tb8, NV]) (by simp [hSB, SO, RB, wB, hV]) (by simp [hSB, SO, RB, wB]) (by decide) (by simp)) (takeB_xor tt nn w h V hh er _ fun n => ?_)
  simp [tb8, wB, hSB, SO, RB, NV]
  exact fin [] (by decide) rfl rfl (by simp [objsOut, show List.range 2 = [0, 1] from rfl]) ⟨rfl, rfl⟩
end Go.Proofs.YtddcceahaigodaaGreatDoor
