import Derived.Test.YtejjhgdnmknejaaGreatDoorAll19
set_option maxHeartbeats 64000000
namespace Go.Proofs.YtejjhgdnmknejaaGreatDoor
open Go Go.EW
set_option linter.unusedSimpArgs false
set_option linter.unusedVariables false
def yl13h : UL | _ => [xb 6 11 .shl 8 10, xb 7 12 .or 7 11, xM 8 4 12]
def yl13i : UL | _ => xM 0 5 0 :: xM 1 6 1 :: xb 2 7 .shr 5 6 :: xM 3 8 0 :: xM 4 9 1 :: xQ 5 10 (.bin .sub (xK 32) (.t 9)) :: hid yl13h
def yb13j : UB | _ => .seq (reg0 [xQ 0 4 (.mov (.k (.int .u32 0)))] 1) (.seq (reg0 (hid yl13i) 9) .ret)
attribute [simp] yl13h yl13i yb13j
def c_Bright : EB × List QOp × Nat := ((hid yb13j), [(.mov (.t 4))], 13)
theorem k_Bright : cfun Tryz.prog 220 = some c_Bright := by kernel_rfl
def yl13l : UL | _ => [xQ 0 1 (.bsr 254 1 [(.int .u32 0)] 8 [(0, (.k (.int .u32 1779033703))), (1, (.k (.int .u32 3144134277))), (2, (.k (.int .u32 1013904242))), (3, (.k (.int .u32 2773480762))), (4, (.k (.int .u32 1359893119))), (5, (.k (.int .u32 2600822924))), (6, (.k (.int .u32 528734635))), (7, (.k (.int .u32 1541459225)))]), xM 1 0 1]
def yb13m : UB | _ => .seq (reg0 [xQ 0 0 (.mov (.k xS))] 1) (.seq (reg0 (hid yl13l) 2) .ret)
attribute [simp] yl13l yb13m
def c_Bbegin : EB × List QOp × Nat := ((hid yb13m), [(.mov (.t 0))], 2)
theorem k_Bbegin : cfun Tryz.prog 200 = some c_Bbegin := by kernel_rfl
def yl13p : UL | _ => [xM 0 5 0, xQ 1 6 (.bin .sub (.t 5) (.k (.int .u8 97))), xQ 2 7 (.cnv .i64 (.t 6)), xc 3 8 .add 7 10, xM 4 2 8]
def yl13r : UL | _ => [xM 0 9 0, xQ 1 10 (.bin .sub (.t 9) (.k (.int .u8 48))), xQ 2 11 (.cnv .i64 (.t 10)), xM 3 2 11]
def yb13s : UB | _ => .seq (reg0 [xC 0 2 0] 1) (.seq (.seq (reg0 [xM 0 3 0, xQ 1 4 (.bin .geq (.t 3) (.k (.int .u8 97)))] 2) (.cond (.t 4) (.seq (reg0 (hid yl13p) 5) .ret) .skip)) (.seq (reg0 (hid yl13r) 4) .ret))
attribute [simp] yl13p yl13r yb13s
def c_Bdigit : EB × List QOp × Nat := ((hid yb13s), [(.mov (.t 2))], 12)
theorem k_Bdigit : cfun Tryz.prog 216 = some c_Bdigit := by kernel_rfl
def wrw (l : List UInt32) : List (List FV) := l.map fun x => [.lit (.int .u32 (wi x))]
@[simp] theorem wrw_len (l : List UInt32) : (wrw l).length = l.length := by simp [wrw]
theorem Bright_ok (x : UInt32) (k : Nat) (h : k ≤ 32) : ECalls Tryz.prog 220 [WV x, NV k] [] fun y H' => H' = [] ∧ y = WV (rotr x k) := by
 have w1 : IntKind.i64.wrap (32 - (k : Int)) = ((32 - k : Nat) : Int) := by rw [wrap_i64 (by omega) (by omega)]; omega
 have h1 := wi_shr x k h
 have h2 := wi_shl x (32 - k) (by omega)
 have h3 : ibit .or .u32 (wi (shr x k)) (wi (shl x (32 - k))) = wi (rotr x k) := by rw [wi_or, UInt32.or_comm]; rfl
 have n0 : ¬ ((k : Int) < 0) := by omega
 have n1 : ¬ (((32 - k : Nat) : Int) < 0) := by omega
 refine ecalls k_Bright ?_
 simp [c_Bright, WV, NV, w1, h1, h2, h3, n0, n1]
 exact fin0
theorem Bbegin_ok : ECalls Tryz.prog 200 [] [] fun y H' => H' = [some (.row 254 1 (wrw firstW))] ∧ y = .v (.c (.row 0 8)) := by
 refine ecalls k_Bbegin ?_
 simp [c_Bbegin]
 exact fin [16] (by decide) rfl rfl rfl ⟨rfl, rfl⟩
theorem Bdigit_ok (c : UInt8) (n : Nat) (h : n = if 97 ≤ c.toNat then c.toNat - 87 else c.toNat - 48) (h1 : 48 ≤ c.toNat) : ECalls Tryz.prog 216 [.lit (.int .u8 (c.toNat : Int))] [] fun y H' => H' = [] ∧ y = NV n := by
 refine ecalls k_Bdigit ?_
 have hc := c.toNat_lt
 simp [c_Bdigit]
 refine alt (fun hh => ?_) (fun hh => ?_)
 ·rw [if_pos (by omega)] at h
  have w0 : IntKind.u8.wrap ((c.toNat : Int) - 97) = ((c.toNat - 97 : Nat) : Int) := by simp [IntKind.wrap, IntKind.bits, IntKind.signed]; omega
  have w1 : IntKind.i64.wrap ((c.toNat - 97 : Nat) : Int) = ((c.toNat - 97 : Nat) : Int) := wrap_i64 (by omega) (by omega)
  have w2 : IntKind.i64.wrap (((c.toNat - 97 : Nat) : Int) + 10) = (n : Int) := by rw [wrap_i64 (by omega) (by omega), h]; omega
  simp [w0, w1, w2]
  exact fin0
 ·rw [if_neg (by omega)] at h
  have w0 : IntKind.u8.wrap ((c.toNat : Int) - 48) = ((c.toNat - 48 : Nat) : Int) := by simp [IntKind.wrap, IntKind.bits, IntKind.signed]; omega
  have w1 : IntKind.i64.wrap ((c.toNat - 48 : Nat) : Int) = (n : Int) := by rw [wrap_i64 (by omega) (by omega), h]
  simp [w0, w1]
  exact fin0
def yl13t : UL | _ => [xb 12 26 .add 24 25, xI 13 27 1 14 15, xN 14 (.sto 1 (.t 27) (.t 26))]
def yl13u : UL | _ => xM 6 20 0 :: xM 7 21 2 :: xI 8 22 1 20 21 :: xL 9 23 22 :: xb 10 24 .add 19 23 :: xM 11 25 5 :: hid yl13t
def yl13v : UL | _ => xM 0 14 0 :: xM 1 15 1 :: xM 2 16 0 :: xM 3 17 1 :: xI 4 18 1 16 17 :: xL 5 19 18 :: hid yl13u
def yl13w : UL | _ => [xI 12 40 1 28 29, xN 13 (.sto 1 (.t 40) (.t 39))]
def yl13x : UL | _ => xM 6 34 0 :: xM 7 35 1 :: xI 8 36 1 34 35 :: xL 9 37 36 :: xb 10 38 .xor 33 37 :: ⟨11, (some 39), none, (.call 220 [.t 38, (xK 16)]), [0, 1]⟩ :: hid yl13w
def yl13y : UL | _ => xM 0 28 0 :: xM 1 29 4 :: xM 2 30 0 :: xM 3 31 4 :: xI 4 32 1 30 31 :: xL 5 33 32 :: hid yl13x
def yl13z : UL | _ => [xN 12 (.sto 1 (.t 52) (.t 51))]
def yl140 : UL | _ => xM 6 47 0 :: xM 7 48 4 :: xI 8 49 1 47 48 :: xL 9 50 49 :: xb 10 51 .add 46 50 :: xI 11 52 1 41 42 :: hid yl13z
def yl141 : UL | _ => xM 0 41 0 :: xM 1 42 3 :: xM 2 43 0 :: xM 3 44 3 :: xI 4 45 1 43 44 :: xL 5 46 45 :: hid yl140
def yl142 : UL | _ => [xI 12 65 1 53 54, xN 13 (.sto 1 (.t 65) (.t 64))]
def yl143 : UL | _ => xM 6 59 0 :: xM 7 60 3 :: xI 8 61 1 59 60 :: xL 9 62 61 :: xb 10 63 .xor 58 62 :: ⟨11, (some 64), none, (.call 220 [.t 63, (xK 12)]), [0, 1]⟩ :: hid yl142
def yl144 : UL | _ => xM 0 53 0 :: xM 1 54 2 :: xM 2 55 0 :: xM 3 56 2 :: xI 4 57 1 55 56 :: xL 5 58 57 :: hid yl143
def yl145 : UL | _ => [xb 12 78 .add 76 77, xI 13 79 1 66 67, xN 14 (.sto 1 (.t 79) (.t 78))]
def yl146 : UL | _ => xM 6 72 0 :: xM 7 73 2 :: xI 8 74 1 72 73 :: xL 9 75 74 :: xb 10 76 .add 71 75 :: xM 11 77 6 :: hid yl145
def yl147 : UL | _ => xM 0 66 0 :: xM 1 67 1 :: xM 2 68 0 :: xM 3 69 1 :: xI 4 70 1 68 69 :: xL 5 71 70 :: hid yl146
def yl148 : UL | _ => [xI 12 92 1 80 81, xN 13 (.sto 1 (.t 92) (.t 91))]
def yl149 : UL | _ => xM 6 86 0 :: xM 7 87 1 :: xI 8 88 1 86 87 :: xL 9 89 88 :: xb 10 90 .xor 85 89 :: ⟨11, (some 91), none, (.call 220 [.t 90, (xK 8)]), [0, 1]⟩ :: hid yl148
def yl14a : UL | _ => xM 0 80 0 :: xM 1 81 4 :: xM 2 82 0 :: xM 3 83 4 :: xI 4 84 1 82 83 :: xL 5 85 84 :: hid yl149
def yl14b : UL | _ => [xN 12 (.sto 1 (.t 104) (.t 103))]
def yl14c : UL | _ => xM 6 99 0 :: xM 7 100 4 :: xI 8 101 1 99 100 :: xL 9 102 101 :: xb 10 103 .add 98 102 :: xI 11 104 1 93 94 :: hid yl14b
def yl14d : UL | _ => xM 0 93 0 :: xM 1 94 3 :: xM 2 95 0 :: xM 3 96 3 :: xI 4 97 1 95 96 :: xL 5 98 97 :: hid yl14c
def yl14e : UL | _ => [xI 12 117 1 105 106, xN 13 (.sto 1 (.t 117) (.t 116))]
def yl14f : UL | _ => xM 6 111 0 :: xM 7 112 3 :: xI 8 113 1 111 112 :: xL 9 114 113 :: xb 10 115 .xor 110 114 :: ⟨11, (some 116), none, (.call 220 [.t 115, (xK 7)]), [0, 1]⟩ :: hid yl14e
def yl14g : UL | _ => xM 0 105 0 :: xM 1 106 2 :: xM 2 107 0 :: xM 3 108 2 :: xI 4 109 1 107 108 :: xL 5 110 109 :: hid yl14f
def yb14k : UB | _ => .seq (reg0 (hid yl13v) 15) (.seq (reg1 (hid yl13y) 14) (.seq (reg0 (hid yl141) 13) (.seq (reg1 (hid yl144) 14) (.seq (reg0 (hid yl147) 15) (.seq (reg1 (hid yl14a) 14) (.seq (reg0 (hid yl14d) 13) (reg1 (hid yl14g) 14)))))))
attribute [simp] yl13t yl13u yl13v yl13w yl13x yl13y yl13z yl140 yl141 yl142 yl143 yl144 yl145 yl146 yl147 yl148 yl149 yl14a yl14b yl14c yl14d yl14e yl14f yl14g yb14k
def c_Bstep : EB × List QOp × Nat := ((hid yb14k), [], 118)
theorem k_Bstep : cfun Tryz.prog 215 = some c_Bstep := by kernel_rfl
theorem wrw_get {v : List UInt32} {i : Nat} (h : i < v.length) : (wrw v)[i]? = some [.lit (.int .u32 (wi (g v i)))] := by
 have e : v[i]? = some (g v i) := by
  unfold g
  rw [List.getElem?_eq_getElem h]
  rfl
 simp [wrw, e]
theorem wrw_gE {v : List UInt32} {i : Nat} (h : i < v.length) (h2 : i < (wrw v).length) : (wrw v)[i]'h2 = [.lit (.int .u32 (wi (g v i)))] := by
 have := wrw_get h
 rw [List.getElem?_eq_getElem h2] at this
 exact Option.some.inj this
theorem wrw_set (l : List UInt32) (i : Nat) (x : UInt32) : (wrw l).set i [.lit (.int .u32 (wi x))] = wrw (l.set i x) := by simp [wrw, List.map_set]
theorem wrw_gE' (v : List UInt32) (i : Nat) (h2 : i < (wrw v).length) : (wrw v)[i]'h2 = [.lit (.int .u32 (wi (g v i)))] := wrw_gE (by simpa using h2) h2
set_option maxRecDepth 8000 in
theorem Bstep_ok (v : List UInt32) (a b c d : Nat) (x y : UInt32) (hv : v.length = 16) (ha : a < 16) (hb : b < 16) (hc : c < 16) (hd : d < 16) : ECalls Tryz.prog 215 [.v (.c (.row 0 16)), NV a, NV b, NV c, NV d, WV x, WV y] [.row 254 1 (wrw v)] fun y' H' => H' = [some (.row 254 1 (wrw (mixS v a b c d x y)))] ∧ y' = .tup [] := by
 have ia : (a : Int) < 16 := by omega
 have ib : (b : Int) < 16 := by omega
 have ic : (c : Int) < 16 := by omega
 have id' : (d : Int) < 16 := by omega
 obtain ⟨v1, h1⟩ : ∃ w, v.set a (g v a + g v b + x) = w := ⟨_, rfl⟩
 have e1 : v1.length = 16 := by rw [← h1, List.length_set]; exact hv
 obtain ⟨v2, h2⟩ : ∃ w, v1.set d (rotr (g v1 d ^^^ g v1 a) 16) = w := ⟨_, rfl⟩
 have e2 : v2.length = 16 := by rw [← h2, List.length_set]; exact e1
 obtain ⟨v3, h3⟩ : ∃ w, v2.set c (g v2 c + g v2 d) = w := ⟨_, rfl⟩
 have e3 : v3.length = 16 := by rw [← h3, List.length_set]; exact e2
 obtain ⟨v4, h4⟩ : ∃ w, v3.set b (rotr (g v3 b ^^^ g v3 c) 12) = w := ⟨_, rfl⟩
 have e4 : v4.length = 16 := by rw [← h4, List.length_set]; exact e3
 obtain ⟨v5, h5⟩ : ∃ w, v4.set a (g v4 a + g v4 b + y) = w := ⟨_, rfl⟩
 have e5 : v5.length = 16 := by rw [← h5, List.length_set]; exact e4
 obtain ⟨v6, h6⟩ : ∃ w, v5.set d (rotr (g v5 d ^^^ g v5 a) 8) = w := ⟨_, rfl⟩
 have e6 : v6.length = 16 := by rw [← h6, List.length_set]; exact e5
 obtain ⟨v7, h7⟩ : ∃ w, v6.set c (g v6 c + g v6 d) = w := ⟨_, rfl⟩
 have e7 : v7.length = 16 := by rw [← h7, List.length_set]; exact e6
 obtain ⟨v8, h8⟩ : ∃ w, v7.set b (rotr (g v7 b ^^^ g v7 c) 7) = w := ⟨_, rfl⟩
 have hm : mixS v a b c d x y = v8 := by
  simp only [mixS]
  rw [← UInt32.add_assoc, h1, h2, h3, h4, ← UInt32.add_assoc, h5, h6, h7, h8]
 rw [hm]
 refine ecalls k_Bstep ?_
 simp [c_Bstep, WV, NV, ha, hb, hc, hd, ia, ib, ic, id', hv, wrw_gE', wi_add, wi_xor, wrw_set, h1, e1]
 refine call0 (Bright_ok (g v1 d ^^^ g v1 a) 16 (by decide)) (by simp [WV, NV]) ?_
 rintro y' H' ⟨rfl, rfl⟩
 refine ⟨.inl (by simp), le_ok rfl, ?_⟩
 simp [WV, NV, ha, hb, hc, hd, ia, ib, ic, id', e1, e2, e3, wrw_gE', wi_add, wi_xor, wrw_set, h2, h3]
 refine call0 (Bright_ok (g v3 b ^^^ g v3 c) 12 (by decide)) (by simp [WV, NV]) ?_
 rintro y' H' ⟨rfl, rfl⟩
 refine ⟨.inl (by simp), le_ok rfl, ?_⟩
 simp [WV, NV, ha, hb, hc, hd, ia, ib, ic, id', e3, e4, e5, wrw_gE', wi_add, wi_xor, wrw_set, h4, h5]
 refine call0 (Bright_ok (g v5 d ^^^ g v5 a) 8 (by decide)) (by simp [WV, NV]) ?_
 rintro y' H' ⟨rfl, rfl⟩
 refine ⟨.inl (by simp), le_ok rfl, ?_⟩
 simp [WV, NV, ha, hb, hc, hd, ia, ib, ic, id', e5, e6, e7, wrw_gE', wi_add, wi_xor, wrw_set, h6, h7]
 refine call0 (Bright_ok (g v7 b ^^^ g v7 c) 7 (by decide)) (by simp [WV, NV]) ?_
 rintro y' H' ⟨rfl, rfl⟩
 refine ⟨.inl (by simp), le_ok rfl, ?_⟩
 simp [WV, NV, ha, hb, hc, hd, ia, ib, ic, id', e7, wrw_gE', wi_add, wi_xor, wrw_set, h8]
 exact fin0
def yl14m : UL | _ => [xQ 0 3 (.bsl 1 [(.string ⟨#[]⟩)] 10 [(0, (.k (.string ⟨#[48, 49, 50, 51, 52, 53, 54, 55, 56, 57, 97, 98, 99, 100, 101, 102]⟩))), (1, (.k (.string ⟨#[101, 97, 52, 56, 57, 102, 100, 54, 49, 99, 48, 50, 98, 55, 53, 51]⟩))), (2, (.k (.string ⟨#[98, 56, 99, 48, 53, 50, 102, 100, 97, 101, 51, 54, 55, 49, 57, 52]⟩))), (3, (.k (.string ⟨#[55, 57, 51, 49, 100, 99, 98, 101, 50, 54, 53, 97, 52, 48, 102, 56]⟩))), (4, (.k (.string ⟨#[57, 48, 53, 55, 50, 52, 97, 102, 101, 49, 98, 99, 54, 56, 51, 100]⟩))), (5, (.k (.string ⟨#[50, 99, 54, 97, 48, 98, 56, 51, 52, 100, 55, 53, 102, 101, 49, 57]⟩))), (6, (.k (.string ⟨#[99, 53, 49, 102, 101, 100, 52, 97, 48, 55, 54, 51, 57, 50, 56, 98]⟩))), (7, (.k (.string ⟨#[100, 98, 55, 101, 99, 49, 51, 57, 53, 48, 102, 52, 56, 54, 50, 97]⟩))), (8, (.k (.string ⟨#[54, 102, 101, 57, 98, 51, 48, 56, 99, 50, 100, 55, 49, 52, 97, 53]⟩))), (9, (.k (.string ⟨#[97, 50, 56, 52, 55, 54, 49, 53, 102, 98, 57, 101, 51, 99, 100, 48]⟩)))]), xM 1 4 0, xI 2 5 1 3 4, xL 3 6 5, xM 4 2 6]
def yb14n : UB | _ => .seq (reg0 [xQ 0 2 (.mov (.k (.string ⟨#[]⟩)))] 1) (.seq (reg0 (hid yl14m) 5) .ret)
attribute [simp] yl14m yb14n
def c_Brow : EB × List QOp × Nat := ((hid yb14n), [(.mov (.t 2))], 7)
theorem k_Brow : cfun Tryz.prog 214 = some c_Brow := by kernel_rfl
def rowT : List (List UInt8) := [[48, 49, 50, 51, 52, 53, 54, 55, 56, 57, 97, 98, 99, 100, 101, 102],
 [101, 97, 52, 56, 57, 102, 100, 54, 49, 99, 48, 50, 98, 55, 53, 51],
 [98, 56, 99, 48, 53, 50, 102, 100, 97, 101, 51, 54, 55, 49, 57, 52],
 [55, 57, 51, 49, 100, 99, 98, 101, 50, 54, 53, 97, 52, 48, 102, 56],
 [57, 48, 53, 55, 50, 52, 97, 102, 101, 49, 98, 99, 54, 56, 51, 100],
 [50, 99, 54, 97, 48, 98, 56, 51, 52, 100, 55, 53, 102, 101, 49, 57],
 [99, 53, 49, 102, 101, 100, 52, 97, 48, 55, 54, 51, 57, 50, 56, 98],
 [100, 98, 55, 101, 99, 49, 51, 57, 53, 48, 102, 52, 56, 54, 50, 97],
 [54, 102, 101, 57, 98, 51, 48, 56, 99, 50, 100, 55, 49, 52, 97, 53],
 [97, 50, 56, 52, 55, 54, 49, 53, 102, 98, 57, 101, 51, 99, 100, 48]]
def rowS (r : Nat) : List UInt8 := (rowT[r]?).getD []
theorem Brow_ok (r : Nat) (h : r < 10) : ECalls Tryz.prog 214 [NV r] [] fun y H' => H' = [] ∧ y = .lit (.string (strb (rowS r))) := by
 refine ecalls k_Brow ?_
 match r, h with
 | 0, _ => simp [c_Brow, NV]; exact fin0
 | 1, _ => simp [c_Brow, NV]; exact fin0
 | 2, _ => simp [c_Brow, NV]; exact fin0
 | 3, _ => simp [c_Brow, NV]; exact fin0
 | 4, _ => simp [c_Brow, NV]; exact fin0
 | 5, _ => simp [c_Brow, NV]; exact fin0
 | 6, _ => simp [c_Brow, NV]; exact fin0
 | 7, _ => simp [c_Brow, NV]; exact fin0
 | 8, _ => simp [c_Brow, NV]; exact fin0
 | 9, _ => simp [c_Brow, NV]; exact fin0
 | n + 10, h => exact absurd h (by omega)
def yl14p : UL | _ => [xQ 0 8 (.alloc 330 (List.replicate 16 (.int .u32 0))), xQ 1 9 (.alloc 330 (List.replicate 16 (.int .u32 0)))]
def yl14t : UL | _ => [xQ 30 50 (.iad 16 1 (.t 8) (.t 20)), xN 31 (.sto 1 (.t 50) (.t 49))]
def yl14u : UL | _ => xc 24 44 .add 43 3 :: xQ 25 45 (.iad 64 1 (.t 5) (.t 44)) :: xL 26 46 45 :: xQ 27 47 (.cnv .u32 (.t 46)) :: xQ 28 48 (.bin .shl (.t 47) (.k (.int .u64 24))) :: xb 29 49 .or 41 48 :: hid yl14t
def yl14v : UL | _ => xL 18 38 37 :: xQ 19 39 (.cnv .u32 (.t 38)) :: xQ 20 40 (.bin .shl (.t 39) (.k (.int .u64 16))) :: xb 21 41 .or 33 40 :: xM 22 42 10 :: xQ 23 43 (.bin .mul (xK 4) (.t 42)) :: hid yl14u
def yl14w : UL | _ => xQ 12 32 (.bin .shl (.t 31) (.k (.int .u64 8))) :: xb 13 33 .or 25 32 :: xM 14 34 10 :: xQ 15 35 (.bin .mul (xK 4) (.t 34)) :: xc 16 36 .add 35 2 :: xQ 17 37 (.iad 64 1 (.t 5) (.t 36)) :: hid yl14v
def yl14x : UL | _ => xM 6 26 10 :: xQ 7 27 (.bin .mul (xK 4) (.t 26)) :: xc 8 28 .add 27 1 :: xQ 9 29 (.iad 64 1 (.t 5) (.t 28)) :: xL 10 30 29 :: xQ 11 31 (.cnv .u32 (.t 30)) :: hid yl14w
def yl14y : UL | _ => xM 0 20 10 :: xM 1 21 10 :: xQ 2 22 (.bin .mul (xK 4) (.t 21)) :: xQ 3 23 (.iad 64 1 (.t 5) (.t 22)) :: xL 4 24 23 :: xQ 5 25 (.cnv .u32 (.t 24)) :: hid yl14x
def b_btake_25 : UB | _ => .seq (reg0 [xc 0 18 .lss 17 16] 1) (.seq (.cond (.t 18) .skip (.exit 0)) (.seq (.block 1 (.seq (reg0 [xM 0 19 17, xM 1 10 19] 2) (reg0 (hid yl14y) 32))) (reg0 [xc 0 51 .add 17 1, xM 1 17 51] 2)))
def yl151 : UL | _ => [xQ 0 52 (.sar 16 (.t 9) none none), xM 1 53 0, xQ 2 54 (.nilc (.t 53)), xQ 3 55 (.sar 8 (.t 54) none none), xO 4 56 (.cpy 1 (.t 52) (.t 55))]
def yl152 : UL | _ => [xO 0 57 (.call 131 []), xQ 1 11 (.alloc 256 [(.int .u32 0), (.int .u32 0), (.int .u32 0), (.int .u32 0), (.int .u32 0), (.int .u32 0), (.int .u32 0), (.int .u32 0)]), xN 2 (.sto 8 (.t 11) (.t 57))]
def yl153 : UL | _ => [xQ 0 58 (.sar 16 (.t 9) (some (xK 8)) none), xQ 1 59 (.sar 8 (.t 11) none none), xO 2 60 (.cpy 1 (.t 58) (.t 59))]
def yl154 : UL | _ => [xN 6 (.sto 1 (.t 66) (.t 65))]
def yl155 : UL | _ => xQ 0 61 (.iad 16 1 (.t 9) (xK 12)) :: xL 1 62 61 :: xM 2 63 2 :: xQ 3 64 (.cnv .u32 (.t 63)) :: xb 4 65 .xor 62 64 :: xQ 5 66 (.iad 16 1 (.t 9) (xK 12)) :: hid yl154
def yl156 : UL | _ => [xQ 6 73 (.iad 16 1 (.t 9) (xK 13)), xN 7 (.sto 1 (.t 73) (.t 72))]
def yl157 : UL | _ => xQ 0 67 (.iad 16 1 (.t 9) (xK 13)) :: xL 1 68 67 :: xM 2 69 2 :: xQ 3 70 (.bin .shr (.t 69) (.k (.int .u64 32))) :: xQ 4 71 (.cnv .u32 (.t 70)) :: xb 5 72 .xor 68 71 :: hid yl156
def yl159 : UL | _ => [xQ 0 75 (.iad 16 1 (.t 9) (xK 14)), xL 1 76 75, xQ 2 77 (.un .xor (.t 76)), xQ 3 78 (.iad 16 1 (.t 9) (xK 14)), xN 4 (.sto 1 (.t 78) (.t 77))]
def yl15e : UL | _ => [xM 0 82 12, xQ 1 83 (.iad 10 16 (.k (.pointer (some ⟨1, 0, none⟩))) (.t 82)), xD 2 84 16 83, xQ 3 13 (.alloc 331 (List.replicate 16 (.int .u8 0))), xN 4 (.sto 16 (.t 13) (.t 84))]
def yl15i : UL | _ => [xQ 18 106 (.iad 16 1 (.t 8) (.t 105)), xL 19 107 106, xO 20 108 (.call 202 [.t 9, .t 88, .t 90, .t 92, .t 94, .t 100, .t 107])]
def yl15j : UL | _ => xL 12 100 99 :: xM 13 101 14 :: xQ 14 102 (.bin .mul (xK 2) (.t 101)) :: xc 15 103 .add 102 1 :: xQ 16 104 (.iad 16 1 (.t 13) (.t 103)) :: xL 17 105 104 :: hid yl15i
def yl15k : UL | _ => xQ 6 94 (.bin .add (xK 12) (.t 93)) :: xM 7 95 14 :: xQ 8 96 (.bin .mul (xK 2) (.t 95)) :: xQ 9 97 (.iad 16 1 (.t 13) (.t 96)) :: xL 10 98 97 :: xQ 11 99 (.iad 16 1 (.t 8) (.t 98)) :: hid yl15j
def yl15l : UL | _ => xM 0 88 14 :: xM 1 89 14 :: xQ 2 90 (.bin .add (xK 4) (.t 89)) :: xM 3 91 14 :: xQ 4 92 (.bin .add (xK 8) (.t 91)) :: xM 5 93 14 :: hid yl15k
def b_btake_74 : UB | _ => .seq (reg0 [xc 0 86 .lss 85 4] 1) (.seq (.cond (.t 86) .skip (.exit 4)) (.seq (.block 5 (.seq (reg0 [xM 0 87 85, xM 1 14 87] 2) (reg0 (hid yl15l) 21))) (reg0 [xc 0 109 .add 85 1, xM 1 85 109] 2)))
def yl15r : UL | _ => [xL 24 137 136, xQ 25 138 (.iad 16 1 (.t 8) (.t 137)), xL 26 139 138, xO 27 140 (.call 202 [.t 9, .t 113, .t 117, .t 121, .t 125, .t 132, .t 139])]
def yl15s : UL | _ => xQ 18 131 (.iad 16 1 (.t 8) (.t 130)) :: xL 19 132 131 :: xM 20 133 15 :: xQ 21 134 (.bin .mul (xK 2) (.t 133)) :: xQ 22 135 (.bin .add (xK 9) (.t 134)) :: xQ 23 136 (.iad 16 1 (.t 13) (.t 135)) :: hid yl15r
def yl15t : UL | _ => xQ 12 125 (.bin .add (xK 12) (.t 124)) :: xM 13 126 15 :: xQ 14 127 (.bin .mul (xK 2) (.t 126)) :: xQ 15 128 (.bin .add (xK 8) (.t 127)) :: xQ 16 129 (.iad 16 1 (.t 13) (.t 128)) :: xL 17 130 129 :: hid yl15s
def yl15u : UL | _ => xc 6 119 .add 118 2 :: xc 7 120 .rem 119 4 :: xQ 8 121 (.bin .add (xK 8) (.t 120)) :: xM 9 122 15 :: xc 10 123 .add 122 3 :: xc 11 124 .rem 123 4 :: hid yl15t
def yl15v : UL | _ => xM 0 113 15 :: xM 1 114 15 :: xc 2 115 .add 114 1 :: xc 3 116 .rem 115 4 :: xQ 4 117 (.bin .add (xK 4) (.t 116)) :: xM 5 118 15 :: hid yl15u
def b_btake_97 : UB | _ => .seq (reg0 [xc 0 111 .lss 110 4] 1) (.seq (.cond (.t 111) .skip (.exit 6)) (.seq (.block 7 (.seq (reg0 [xM 0 112 110, xM 1 15 112] 2) (reg0 (hid yl15v) 28))) (reg0 [xc 0 141 .add 110 1, xM 1 110 141] 2)))
def yb15z : UB | _ => .seq (reg0 [xM 0 81 79, xM 1 12 81] 2) (.seq (reg0 (hid yl15e) 5) (.seq (.seq (reg0 [xC 0 85 0] 1) (.block 4 (.loop (hid b_btake_74)))) (.seq (reg0 [xC 0 110 0] 1) (.block 6 (.loop (hid b_btake_97))))))
def yb161 : UB | _ => .seq (.cond (.t 80) .skip (.exit 2)) (.seq (.block 3 (hid yb15z)) (reg0 [xc 0 142 .add 79 1, xM 1 79 142] 2))
def b_btake_109 : UB | _ => .seq (reg0 [xc 0 80 .lss 79 10] 1) (hid yb161)
def yl165 : UL | _ => [xb 12 158 .xor 153 157, xb 13 159 .xor 150 158, xQ 14 160 (.nilc (.t 146)), xQ 15 161 (.iad 8 1 (.t 160) (.t 147)), xN 16 (.sto 1 (.t 161) (.t 159))]
def yl166 : UL | _ => xQ 6 152 (.iad 16 1 (.t 9) (.t 151)) :: xL 7 153 152 :: xM 8 154 16 :: xQ 9 155 (.bin .add (xK 8) (.t 154)) :: xQ 10 156 (.iad 16 1 (.t 9) (.t 155)) :: xL 11 157 156 :: hid yl165
def yl167 : UL | _ => xM 0 146 0 :: xM 1 147 16 :: xQ 2 148 (.nilc (.t 146)) :: xQ 3 149 (.iad 8 1 (.t 148) (.t 147)) :: xL 4 150 149 :: xM 5 151 16 :: hid yl166
def b_btake_130 : UB | _ => .seq (reg0 [xc 0 144 .lss 143 8] 1) (.seq (.cond (.t 144) .skip (.exit 8)) (.seq (.block 9 (.seq (reg0 [xM 0 145 143, xM 1 16 145] 2) (reg0 (hid yl167) 17))) (reg0 [xc 0 162 .add 143 1, xM 1 143 162] 2)))
def yb16c : UB | _ => .seq (reg0 (hid yl153) 3) (.seq (reg0 (hid yl155) 7) (.seq (reg0 (hid yl157) 8) (.seq (.seq (reg0 [xM 0 74 3] 1) (.cond (.t 74) (reg0 (hid yl159) 5) .skip)) (.seq (.seq (reg0 [xC 0 79 0] 1) (.block 2 (.loop (hid b_btake_109)))) (.seq (reg0 [xC 0 143 0] 1) (.block 8 (.loop (hid b_btake_130))))))))
def yb16f : UB | _ => .seq (reg0 [xW 0 5 307 1] 1) (.seq (reg0 (hid yl14p) 2) (.seq (.seq (reg0 [xC 0 17 0] 1) (.block 0 (.loop (hid b_btake_25)))) (.seq (reg0 (hid yl151) 5) (.seq (reg0 (hid yl152) 3) (hid yb16c)))))
attribute [simp] yl14p yl14t yl14u yl14v yl14w yl14x yl14y b_btake_25 yl151 yl152 yl153 yl154 yl155 yl156 yl157 yl159 yl15e yl15i yl15j yl15k yl15l b_btake_74 yl15r yl15s yl15t yl15u yl15v b_btake_97 yb15z yb161 b_btake_109 yl165 yl166 yl167 b_btake_130 yb16c yb16f
def c_btake : EB × List QOp × Nat := ((hid yb16f), [], 163)
theorem k_btake : cfun Tryz.prog 175 = some c_btake := by kernel_rfl
def bw (b : UInt8) : UInt32 := UInt32.ofNat b.toNat
def g8 (b : List UInt8) (i : Nat) : UInt8 := (b[i]?).getD 0
def wordS (b : List UInt8) (i : Nat) : UInt32 := ((bw (g8 b (4 * i)) ||| shl (bw (g8 b (4 * i + 1))) 8) ||| shl (bw (g8 b (4 * i + 2))) 16) ||| shl (bw (g8 b (4 * i + 3))) 24
def upW (n : Nat) (f : Nat → UInt32) : List UInt32 := (List.range n).map f
theorem upW_len (n : Nat) (f : Nat → UInt32) : (upW n f).length = n := by simp [upW]
theorem upW_set {n : Nat} (f h : Nat → UInt32) {i : Nat} (x : UInt32) (he : ∀ j, j < n → h j = if j = i then x else f j) : (upW n f).set i x = upW n h := by
 apply List.ext_getElem?
 intro j
 by_cases hj : j < n
 ·rw [List.getElem?_set]
  by_cases hi : i = j
  ·subst hi
   simp [upW, hj, he i hj]
  ·simp [upW, hj, he j hj, hi]
   intro e
   exact absurd e.symm hi
 ·rw [List.getElem?_eq_none (by simp [upW]; omega), List.getElem?_eq_none (by simp [upW]; omega)]
def mI (b : List UInt8) (i : Nat) : List UInt32 := upW 16 fun j => if j < i then wordS b j else 0
theorem mI_set (b : List UInt8) (i : Nat) : (mI b i).set i (wordS b i) = mI b (i + 1) := by
 refine upW_set _ _ _ (fun j _ => ?_)
 by_cases h1 : j = i
 ·subst h1; simp
 ·by_cases h2 : j < i
  ·rw [if_neg h1, if_pos h2, if_pos (by omega)]
  ·rw [if_neg h1, if_neg h2, if_neg (by omega)]
def lo32 (t : Nat) : UInt32 := UInt32.ofNat t
def hi32 (t : Nat) : UInt32 := UInt32.ofNat (t / 4294967296)
def iniS (h : List UInt32) (t : Nat) (last : Bool) : List UInt32 :=
 let v := h ++ firstW
 let v := v.set 12 (g v 12 ^^^ lo32 t)
 let v := v.set 13 (g v 13 ^^^ hi32 t)
 if last then v.set 14 (~~~ g v 14) else v
theorem wi_lo (t : Nat) : IntKind.u32.wrap (t : Int) = wi (lo32 t) := by
 rw [u32_mod]
 unfold lo32
 rw [wi_ofNat]
theorem wi_hi (t : Nat) : IntKind.u32.wrap ((t : Int) / 4294967296) = wi (hi32 t) := by
 rw [u32_mod]
 unfold hi32
 rw [wi_ofNat]
 omega
theorem wi_bw (b : UInt8) : IntKind.u32.wrap (b.toNat : Int) = wi (bw b) := by
 rw [u32_mod]
 unfold bw
 rw [wi_ofNat]
theorem hc_gE {b : List UInt8} {i : Nat} (h : i < b.length) (h2 : i < (hc b).length) : (hc b)[i]'h2 = .fz (.lit (.int .u8 ((g8 b i).toNat : Int))) := by
 simp [hc, g8, h]
theorem hc_d0 {b : List UInt8} {i : Nat} (h : i < b.length) : (hc (List.drop i b))[0]? = some (.fz (.lit (.int .u8 ((g8 b i).toNat : Int)))) := by
 simp [hc, g8, h]
def wf (l : List UInt32) : List FV := l.map fun x => .lit (.int .u32 (wi x))
@[simp] theorem frz_wl (l : List UInt32) : frzAll (wl l) = some (wf l) := by
 induction l with
 | nil => rfl
 | cons b r ih => simp only [wl, List.map_cons, frzAll] at *; rw [ih]; rfl
theorem wf_flat (l : List UInt32) (n : Nat) (h : l.length ≤ n) : (List.take n (List.map (List.map EC.fz ∘ fun x => [x]) (wf l))).flatten = wl l := by
 rw [List.tkL (by simp [wf]; exact h)]
 clear h
 induction l with
 | nil => rfl
 | cons b r ih => simp only [wf, wl, List.map_cons, List.flatten_cons] at *; rw [ih]; rfl
theorem wf_sum (l : List UInt32) (n : Nat) (h : l.length ≤ n) : (List.take n (List.map (List.length ∘ fun x => [x]) (wf l))).sum = l.length := by
 rw [List.tkL (by simp [wf]; exact h)]
 clear h
 induction l with
 | nil => rfl
 | cons b r ih => simp only [wf, List.map_cons, List.sum_cons, List.length_cons] at *; rw [ih]; simp [Function.comp]; omega
def Z16 : List UInt32 := List.replicate 16 0
theorem wl_take (l : List UInt32) (n : Nat) : (wl l).take n = wl (l.take n) := by simp [wl]
theorem wl_drop (l : List UInt32) (n : Nat) : (wl l).drop n = wl (l.drop n) := by simp [wl]
theorem wl_app (l r : List UInt32) : wl l ++ wl r = wl (l ++ r) := by simp [wl]
def sN (r j : Nat) : Nat := ((ordN[16 * r + j]?).getD 0).toNat
def colS (m : List UInt32) (r i : Nat) (v : List UInt32) : List UInt32 := mixS v i (4 + i) (8 + i) (12 + i) (g m (sN r (2 * i))) (g m (sN r (2 * i + 1)))
def diaS (m : List UInt32) (r i : Nat) (v : List UInt32) : List UInt32 := mixS v i (4 + (i + 1) % 4) (8 + (i + 2) % 4) (12 + (i + 3) % 4) (g m (sN r (8 + 2 * i))) (g m (sN r (9 + 2 * i)))
def colsS (m : List UInt32) (r : Nat) (v : List UInt32) : Nat → List UInt32
 | 0 => v
 | k + 1 => colS m r k (colsS m r v k)
def diasS (m : List UInt32) (r : Nat) (v : List UInt32) : Nat → List UInt32
 | 0 => v
 | k + 1 => diaS m r k (diasS m r v k)
def rndsS (m : List UInt32) (v : List UInt32) : Nat → List UInt32
 | 0 => v
 | r + 1 => diasS m r (colsS m r (rndsS m v r) 4) 4
theorem mixS_len (v : List UInt32) (a b c d : Nat) (x y : UInt32) : (mixS v a b c d x y).length = v.length := by simp [mixS]
theorem colsS_len (m : List UInt32) (r : Nat) (v : List UInt32) : ∀ k, (colsS m r v k).length = v.length
 | 0 => rfl
 | k + 1 => by unfold colsS colS; rw [mixS_len, colsS_len m r v k]
theorem diasS_len (m : List UInt32) (r : Nat) (v : List UInt32) : ∀ k, (diasS m r v k).length = v.length
 | 0 => rfl
 | k + 1 => by unfold diasS diaS; rw [mixS_len, diasS_len m r v k]
theorem rndsS_len (m : List UInt32) (v : List UInt32) : ∀ r, (rndsS m v r).length = v.length
 | 0 => rfl
 | r + 1 => by unfold rndsS; rw [diasS_len, colsS_len, rndsS_len m v r]
def ocB (r : Nat) : List UInt8 := (List.range 16).map fun j => UInt8.ofNat (sN r j)
theorem ocB_len (r : Nat) : (ocB r).length = 16 := by simp [ocB]
theorem ordN_len : ordN.length = 160 := by decide +kernel
theorem sN_lt : ∀ r, r < 10 → ∀ j, j < 16 → sN r j < 16 := by decide +kernel
theorem ordN_get : ∀ r, r < 10 → ∀ j, j < 16 → ordN[16 * r + j]? = some (sN r j : Int) := by decide +kernel
theorem ocB_get {r j : Nat} (hr : r < 10) (h : j < 16) : ((g8 (ocB r) j).toNat : Int) = (sN r j : Int) := by
 have := sN_lt r hr j h
 simp [g8, ocB, h]
 omega
theorem oc_eq (r : Nat) (h : r < 10) : List.take 16 (List.drop (r * 16) (List.map (EC.fz ∘ fun n => FV.lit (Value.int .u8 n)) ordN)) = hc (ocB r) := by
 apply List.ext_getElem?
 intro j
 by_cases hj : j < 16
 ·have h1 := ordN_get r h j hj
  have h2 := ocB_get h hj
  have h3 : (hc (ocB r))[j]? = some (.fz (.lit (.int .u8 ((g8 (ocB r) j).toNat : Int)))) := by simp [hc, g8, ocB, hj]
  rw [List.getElem?_take, if_pos hj, List.getElem?_drop, List.getElem?_map, show r * 16 + j = 16 * r + j by omega, h1, h3, h2]
  rfl
 ·rw [List.getElem?_eq_none (by simp; omega), List.getElem?_eq_none (by simp [ocB]; omega)]
def xorS (h v : List UInt32) : Nat → List UInt32
 | 0 => h
 | k + 1 => (xorS h v k).set k (g (xorS h v k) k ^^^ (g v k ^^^ g v (8 + k)))
theorem xorS_len (h v : List UInt32) : ∀ k, (xorS h v k).length = h.length
 | 0 => rfl
 | k + 1 => by unfold xorS; rw [List.length_set, xorS_len h v k]
def takeS (h : List UInt32) (b : List UInt8) (t : Nat) (last : Bool) : List UInt32 := xorS h (rndsS (mI b 16) (iniS h t last) 10) 8
def HO (h : List UInt32) : EO := .box 256 (wl h)
def BV (b : List UInt8) : EV := .v (.agg (hc b))
def wB (v : List UInt32) : Option EO := some (.box 330 (wl v))
def hB2 (h : List UInt32) : Option EO := some (.box 256 (wl h))
def tk0 (t : Nat) (last : Bool) (i : Nat) (e : EV) : List EV := [.v (.c (.ptr 0 0)), xA, .lit (.int .u64 t), .lit (.bool last), xA, .v (.c (.ptr 1 0)), xA, xA, .v (.c (.ptr 2 0)), .v (.c (.ptr 3 0)), xA, xA, xA, xA, xA, xA, xA, NV i, e, xA, xA, xA, xA, xA, xA, xA, xA, xA, xA, xA, xA, xA, xA, xA, xA, xA, xA, xA, xA, xA, xA, xA, xA, xA, xA, xA, xA, xA, xA, xA, xA, xA, xA, xA, xA, xA, xA, xA, xA, xA, xA, xA, xA, xA, xA, xA, xA, xA, xA, xA, xA, xA, xA, xA, xA, xA, xA, xA, xA, xA, xA, xA, xA, xA, xA, xA, xA, xA, xA, xA, xA, xA, xA, xA, xA, xA, xA, xA, xA, xA, xA, xA, xA, xA, xA, xA, xA, xA, xA, xA, xA, xA, xA, xA, xA, xA, xA, xA, xA, xA, xA, xA, xA, xA, xA, xA, xA, xA, xA, xA, xA, xA, xA, xA, xA, xA, xA, xA, xA, xA, xA, xA, xA, xA, xA, xA, xA, xA, xA, xA, xA, xA, xA, xA, xA, xA, xA, xA, xA, xA, xA, xA, .any]
def hk0 (h : List UInt32) (b : List UInt8) (i : Nat) : List (Option EO) := [hB2 h, some (.box 307 (hc b)), wB (mI b i), wB Z16]
@[simp] theorem hk0_len (h : List UInt32) (b : List UInt8) (i : Nat) : (hk0 h b i).length = 4 := rfl
set_option maxRecDepth 8000 in
theorem take_words (h : List UInt32) (b : List UInt8) (t : Nat) (last : Bool) (hb : b.length = 64) (Q : Exit → St → Go.EW.Tok → Prop) (hQ : ∀ n, Q (.exit 0) ⟨tk0 t last 16 (.lit (.bool false)), ofO (hk0 h b 16), n⟩ .on) :
  LoopT Tryz.prog 1 (hid b_btake_25) Q ⟨tk0 t last 0 .any, ofO (hk0 h b 0), 4⟩ := by
 refine eloop (α := Nat) (fun i => i ≤ 16) (fun i => 16 - i) (fun i => tk0 t last i .any) (fun i => hk0 h b i) 0 [0, 1, 2, 3]
  (by omega) (by simp [tk0, NV]) (by simp [hk0, hB2, wB]) (by simp [hk0, hB2, wB]) (by simp) (by simp [hk0]) ?_
 intro i hi
 have hml : (mI b i).length = 16 := upW_len _ _
 by_cases hlt : i < 16
 ·have il : (i : Int) < 16 := by omega
  have xl : i ≤ 15 := by omega
  obtain ⟨k, hk⟩ : ∃ k, k = 4 * i := ⟨_, rfl⟩
  have w0 : IntKind.i64.wrap (4 * (i : Int)) = (k : Int) := by rw [wrap_i64 (by omega) (by omega)]; omega
  have w1 : IntKind.i64.wrap ((k : Int) + 1) = ((k + 1 : Nat) : Int) := wrap_i64 (by omega) (by omega)
  have w2 : IntKind.i64.wrap ((k : Int) + 2) = ((k + 2 : Nat) : Int) := wrap_i64 (by omega) (by omega)
  have w3 : IntKind.i64.wrap ((k : Int) + 3) = ((k + 3 : Nat) : Int) := wrap_i64 (by omega) (by omega)
  have wi1 := wS (i := i) (by omega)
  have k0 : k < 64 := by omega
  have k1 : k + 1 < 64 := by omega
  have k2 : k + 2 < 64 := by omega
  have k3 : k + 3 < 64 := by omega
  have j0 : (k : Int) < 64 := by omega
  have j1 : ((k + 1 : Nat) : Int) < 64 := by omega
  have j2 : ((k + 2 : Nat) : Int) < 64 := by omega
  have j3 : ((k + 3 : Nat) : Int) < 64 := by omega
  have s8 : ∀ x, ishl .u32 (wi x) 8 = wi (shl x 8) := fun x => wi_shl x 8 (by omega)
  have s16 : ∀ x, ishl .u32 (wi x) 16 = wi (shl x 16) := fun x => wi_shl x 16 (by omega)
  have s24 : ∀ x, ishl .u32 (wi x) 24 = wi (shl x 24) := fun x => wi_shl x 24 (by omega)
  have hw : ((bw (g8 b k) ||| shl (bw (g8 b (k + 1))) 8) ||| shl (bw (g8 b (k + 2))) 16) ||| shl (bw (g8 b (k + 3))) 24 = wordS b i := by rw [hk]; rfl
  simp [tk0, hk0, wB, hB2, NV, il, xl, w0, w1, w2, w3, wi1, hb, k0, k1, k2, k3, j0, j1, j2, j3, s8, s16, s24, hc_gE, hc_d0, wi_bw, wi_or, hw, hml, hlt, wl_put, mI_set, -Int.natCast_add]
  exact round (i + 1) [0, 1, 2, 3] (by omega) (by omega) (by simp [tk0, NV]) (by simp [hk0, hB2, wB]) (by simp [hk0, hB2, wB]) (by simp) (by simp [hk0])
 ·have hi16 : i = 16 := by omega
  subst hi16
  simp [tk0, hk0, NV]
  exact hQ _
def tk4 (r i : Nat) (e : EV) : List EV := [.v (.c (.ptr 0 0)), xA, xA, xA, xA, xA, xA, xA, .v (.c (.ptr 1 0)), .v (.c (.ptr 2 0)), xA, xA, xA, .v (.c (.ptr 3 0)), xA, xA, xA, xA, xA, xA, xA, xA, xA, xA, xA, xA, xA, xA, xA, xA, xA, xA, xA, xA, xA, xA, xA, xA, xA, xA, xA, xA, xA, xA, xA, xA, xA, xA, xA, xA, xA, xA, xA, xA, xA, xA, xA, xA, xA, xA, xA, xA, xA, xA, xA, xA, xA, xA, xA, xA, xA, xA, xA, xA, xA, xA, xA, xA, xA, NV r, xA, xA, xA, xA, xA, NV i, e, xA, xA, xA, xA, xA, xA, xA, xA, xA, xA, xA, xA, xA, xA, xA, xA, xA, xA, xA, xA, xA, xA, xA, xA, xA, xA, xA, xA, xA, xA, xA, xA, xA, xA, xA, xA, xA, xA, xA, xA, xA, xA, xA, xA, xA, xA, xA, xA, xA, xA, xA, xA, xA, xA, xA, xA, xA, xA, xA, xA, xA, xA, xA, xA, xA, xA, xA, xA, xA, xA, xA, xA, xA, xA, xA, .any]
def hk4 (h m v : List UInt32) (r : Nat) : List (Option EO) := [hB2 h, wB m, wB v, some (.box 331 (hc (ocB r)))]
@[simp] theorem hk4_len (h m v : List UInt32) (r : Nat) : (hk4 h m v r).length = 4 := rfl
set_option maxRecDepth 8000 in
theorem take_cols (h m V : List UInt32) (r : Nat) (hlr : r < 10) (hml : m.length = 16) (er : V.length = 16) (Q : Exit → St → Go.EW.Tok → Prop) (hQ : ∀ n, Q (.exit 4) ⟨tk4 r 4 (.lit (.bool false)), ofO (hk4 h m (colsS m r V 4) r), n⟩ .on) :
  LoopT Tryz.prog 1 (hid b_btake_74) Q ⟨tk4 r 0 .any, ofO (hk4 h m V r), 4⟩ := by
 refine eloop (α := Nat) (fun i => i ≤ 4) (fun i => 4 - i) (fun i => tk4 r i .any) (fun i => hk4 h m (colsS m r V i) r) 0 [0, 1, 2, 3]
  (by omega) (by simp [tk4, NV]) (by simp [hk4, hB2, wB, colsS]) (by simp [hk4, hB2, wB]) (by simp) (by simp [hk4]) ?_
 intro i hi
 have ei : (colsS m r V i).length = 16 := by rw [colsS_len]; exact er
 by_cases hli : i < 4
 ·have ii : (i : Int) < 4 := by omega
  have wi1 := wS (i := i) (by omega)
  have w4 : IntKind.i64.wrap (4 + (i : Int)) = ((4 + i : Nat) : Int) := by rw [wrap_i64 (by omega) (by omega)]; omega
  have w8 : IntKind.i64.wrap (8 + (i : Int)) = ((8 + i : Nat) : Int) := by rw [wrap_i64 (by omega) (by omega)]; omega
  have w12 : IntKind.i64.wrap (12 + (i : Int)) = ((12 + i : Nat) : Int) := by rw [wrap_i64 (by omega) (by omega)]; omega
  have wa : IntKind.i64.wrap (2 * (i : Int)) = ((2 * i : Nat) : Int) := by rw [wrap_i64 (by omega) (by omega)]; omega
  have wb : IntKind.i64.wrap (((2 * i : Nat) : Int) + 1) = ((2 * i + 1 : Nat) : Int) := wrap_i64 (by omega) (by omega)
  have xa : ((2 * i : Nat) : Int) < 16 := by omega
  have xb : ((2 * i + 1 : Nat) : Int) < 16 := by omega
  have ol := ocB_len r
  have oa := ocB_get hlr (show 2 * i < 16 by omega)
  have ob := ocB_get hlr (show 2 * i + 1 < 16 by omega)
  have la : 2 * i < 16 := by omega
  have lb : 2 * i + 1 < 16 := by omega
  have sa := sN_lt r hlr (2 * i) (by omega)
  have sb := sN_lt r hlr (2 * i + 1) (by omega)
  have ta : (sN r (2 * i) : Int) < 16 := by omega
  have tb : (sN r (2 * i + 1) : Int) < 16 := by omega
  simp [tk4, hk4, wB, hB2, NV, ii, w4, w8, w12, wa, wb, xa, xb, ol, la, lb, hc_d0, hc_gE, oa, ob, sa, sb, ta, tb, hml, wl_gE, -Int.natCast_add, -Int.natCast_mul]
  refine callH [2] (mix_ok (colsS m r V i) i (4 + i) (8 + i) (12 + i) (g m (sN r (2 * i))) (g m (sN r (2 * i + 1))) ei (by omega) (by omega) (by omega) (by omega)) (by simp [NV, WV]) (by simp [VO]) (by simp) (by simp) (by simp) ?_
  rintro y H' ⟨rfl, rfl⟩
  refine ⟨.inl (by simp), by simp, ?_⟩
  simp [VO, wi1, -Int.natCast_add]
  exact round (i + 1) [0, 1, 2, 3] (by omega) (by omega) (by simp [tk4, NV]) (by simp [hk4, hB2, wB, colsS, colS]) (by simp [hk4, hB2, wB]) (by simp) (by simp [hk4])
 ·have h4 : i = 4 := by omega
  subst h4
  simp [tk4, hk4, NV]
  exact hQ _
def tk6 (r i : Nat) (e : EV) : List EV := [.v (.c (.ptr 0 0)), xA, xA, xA, xA, xA, xA, xA, .v (.c (.ptr 1 0)), .v (.c (.ptr 2 0)), xA, xA, xA, .v (.c (.ptr 3 0)), xA, xA, xA, xA, xA, xA, xA, xA, xA, xA, xA, xA, xA, xA, xA, xA, xA, xA, xA, xA, xA, xA, xA, xA, xA, xA, xA, xA, xA, xA, xA, xA, xA, xA, xA, xA, xA, xA, xA, xA, xA, xA, xA, xA, xA, xA, xA, xA, xA, xA, xA, xA, xA, xA, xA, xA, xA, xA, xA, xA, xA, xA, xA, xA, xA, NV r, xA, xA, xA, xA, xA, xA, xA, xA, xA, xA, xA, xA, xA, xA, xA, xA, xA, xA, xA, xA, xA, xA, xA, xA, xA, xA, xA, xA, xA, xA, NV i, e, xA, xA, xA, xA, xA, xA, xA, xA, xA, xA, xA, xA, xA, xA, xA, xA, xA, xA, xA, xA, xA, xA, xA, xA, xA, xA, xA, xA, xA, xA, xA, xA, xA, xA, xA, xA, xA, xA, xA, xA, xA, xA, xA, xA, xA, xA, xA, xA, xA, xA, .any]
set_option maxRecDepth 8000 in
theorem take_dias (h m W : List UInt32) (r : Nat) (hlr : r < 10) (hml : m.length = 16) (er : W.length = 16) (Q : Exit → St → Go.EW.Tok → Prop) (hQ : ∀ n, Q (.exit 6) ⟨tk6 r 4 (.lit (.bool false)), ofO (hk4 h m (diasS m r W 4) r), n⟩ .on) :
  LoopT Tryz.prog 1 (hid b_btake_97) Q ⟨tk6 r 0 .any, ofO (hk4 h m W r), 4⟩ := by
 refine eloop (α := Nat) (fun i => i ≤ 4) (fun i => 4 - i) (fun i => tk6 r i .any) (fun i => hk4 h m (diasS m r W i) r) 0 [0, 1, 2, 3]
  (by omega) (by simp [tk6, NV]) (by simp [hk4, hB2, wB, diasS]) (by simp [hk4, hB2, wB]) (by simp) (by simp [hk4]) ?_
 intro i hi
 have ei2 : (diasS m r W i).length = 16 := by rw [diasS_len]; exact er
 by_cases hli : i < 4
 ·have ii : (i : Int) < 4 := by omega
  have wi1 := wS (i := i) (by omega)
  have wi2 : IntKind.i64.wrap ((i : Int) + 2) = ((i + 2 : Nat) : Int) := wrap_i64 (by omega) (by omega)
  have wi3 : IntKind.i64.wrap ((i : Int) + 3) = ((i + 3 : Nat) : Int) := wrap_i64 (by omega) (by omega)
  obtain ⟨a1, ha1⟩ : ∃ a, (i + 1) % 4 = a := ⟨_, rfl⟩
  obtain ⟨a2, ha2⟩ : ∃ a, (i + 2) % 4 = a := ⟨_, rfl⟩
  obtain ⟨a3, ha3⟩ : ∃ a, (i + 3) % 4 = a := ⟨_, rfl⟩
  have m1 : ((i + 1 : Nat) : Int).tmod 4 = (a1 : Int) := by rw [← ha1]; rfl
  have m2 : ((i + 2 : Nat) : Int).tmod 4 = (a2 : Int) := by rw [← ha2]; rfl
  have m3 : ((i + 3 : Nat) : Int).tmod 4 = (a3 : Int) := by rw [← ha3]; rfl
  have w4 : IntKind.i64.wrap (4 + (a1 : Int)) = ((4 + a1 : Nat) : Int) := by rw [wrap_i64 (by omega) (by omega)]; omega
  have w8 : IntKind.i64.wrap (8 + (a2 : Int)) = ((8 + a2 : Nat) : Int) := by rw [wrap_i64 (by omega) (by omega)]; omega
  have w12 : IntKind.i64.wrap (12 + (a3 : Int)) = ((12 + a3 : Nat) : Int) := by rw [wrap_i64 (by omega) (by omega)]; omega
  have wc : IntKind.i64.wrap (2 * (i : Int)) = ((2 * i : Nat) : Int) := by rw [wrap_i64 (by omega) (by omega)]; omega
  have wa : IntKind.i64.wrap (8 + ((2 * i : Nat) : Int)) = ((8 + 2 * i : Nat) : Int) := by rw [wrap_i64 (by omega) (by omega)]; omega
  have wb : IntKind.i64.wrap (9 + ((2 * i : Nat) : Int)) = ((9 + 2 * i : Nat) : Int) := by rw [wrap_i64 (by omega) (by omega)]; omega
  have xa : ((8 + 2 * i : Nat) : Int) < 16 := by omega
  have xb : ((9 + 2 * i : Nat) : Int) < 16 := by omega
  have ol := ocB_len r
  have oa := ocB_get hlr (show 8 + 2 * i < 16 by omega)
  have ob := ocB_get hlr (show 9 + 2 * i < 16 by omega)
  have la : 8 + 2 * i < 16 := by omega
  have lb : 9 + 2 * i < 16 := by omega
  have sa := sN_lt r hlr (8 + 2 * i) (by omega)
  have sb := sN_lt r hlr (9 + 2 * i) (by omega)
  have ta : (sN r (8 + 2 * i) : Int) < 16 := by omega
  have tb : (sN r (9 + 2 * i) : Int) < 16 := by omega
  simp [tk6, hk4, wB, hB2, NV, ii, wi1, wi2, wi3, m1, m2, m3, w4, w8, w12, wc, wa, wb, xa, xb, ol, la, lb, hc_d0, hc_gE, oa, ob, sa, sb, ta, tb, hml, wl_gE, -Int.natCast_add, -Int.natCast_mul]
  refine callH [2] (mix_ok (diasS m r W i) i (4 + a1) (8 + a2) (12 + a3) (g m (sN r (8 + 2 * i))) (g m (sN r (9 + 2 * i))) ei2 (by omega) (by omega) (by omega) (by omega)) (by simp [NV, WV]) (by simp [VO]) (by simp) (by simp) (by simp) ?_
  rintro y H' ⟨rfl, rfl⟩
  refine ⟨.inl (by simp), by simp, ?_⟩
  simp [VO, wi1, -Int.natCast_add]
  exact round (i + 1) [0, 1, 2, 3] (by omega) (by omega) (by simp [tk6, NV]) (by simp [hk4, hB2, wB, diasS, diaS, ha1, ha2, ha3]) (by simp [hk4, hB2, wB]) (by simp) (by simp [hk4])
 ·have h4 : i = 4 := by omega
  subst h4
  simp [tk6, hk4, NV]
  exact hQ _
def tk2 (r : Nat) (e : EV) : List EV := [.v (.c (.ptr 0 0)), xA, xA, xA, xA, xA, xA, xA, .v (.c (.ptr 1 0)), .v (.c (.ptr 2 0)), xA, xA, xA, xA, xA, xA, xA, xA, xA, xA, xA, xA, xA, xA, xA, xA, xA, xA, xA, xA, xA, xA, xA, xA, xA, xA, xA, xA, xA, xA, xA, xA, xA, xA, xA, xA, xA, xA, xA, xA, xA, xA, xA, xA, xA, xA, xA, xA, xA, xA, xA, xA, xA, xA, xA, xA, xA, xA, xA, xA, xA, xA, xA, xA, xA, xA, xA, xA, xA, NV r, e, xA, xA, xA, xA, xA, xA, xA, xA, xA, xA, xA, xA, xA, xA, xA, xA, xA, xA, xA, xA, xA, xA, xA, xA, xA, xA, xA, xA, xA, xA, xA, xA, xA, xA, xA, xA, xA, xA, xA, xA, xA, xA, xA, xA, xA, xA, xA, xA, xA, xA, xA, xA, xA, xA, xA, xA, xA, xA, xA, xA, xA, xA, xA, xA, xA, xA, xA, xA, xA, xA, xA, xA, xA, xA, xA, xA, xA, xA, xA, xA, xA, .any]
def hk2 (h m v : List UInt32) : List (Option EO) := [hB2 h, wB m, wB v]
@[simp] theorem hk2_len (h m v : List UInt32) : (hk2 h m v).length = 3 := rfl
set_option maxRecDepth 8000 in
theorem take_rnds (h m v3 : List UInt32) (hml : m.length = 16) (e3 : v3.length = 16) (Q : Exit → St → Go.EW.Tok → Prop) (hQ : ∀ n, Q (.exit 2) ⟨tk2 10 (.lit (.bool false)), ofO (hk2 h m (rndsS m v3 10)), n⟩ .on) :
  LoopT Tryz.prog 1 (hid b_btake_109) Q ⟨tk2 0 .any, ofO (hk2 h m v3), 3⟩ := by
 refine eloop (α := Nat) (fun r => r ≤ 10) (fun r => 10 - r) (fun r => tk2 r .any) (fun r => hk2 h m (rndsS m v3 r)) 0 [0, 1, 2]
  (by omega) (by simp [tk2, NV]) (by simp [hk2, hB2, wB, rndsS]) (by simp [hk2, hB2, wB]) (by simp) (by simp [hk2]) ?_
 intro r hr
 have er : (rndsS m v3 r).length = 16 := by rw [rndsS_len]; exact e3
 by_cases hlr : r < 10
 ·have ir : (r : Int) < 10 := by omega
  have wr : IntKind.i64.wrap ((r : Int) + 1) = ((r + 1 : Nat) : Int) := wrap_i64 (by omega) (by omega)
  have lr : 16 ≤ 160 - r * 16 := by omega
  have hoc := oc_eq r hlr
  simp [tk2, hk2, wB, hB2, NV, hlr, ir, lr, hoc, ordN_len, ocB_len r]
  obtain ⟨V, hV⟩ : ∃ V, rndsS m v3 r = V := ⟨_, rfl⟩
  rw [hV] at er
  refine loopW _ (weak_norm [0, 1, 2, 99] (tk4 r 0 .any) (hk4 h m V r) (by simp [tk4, NV]) (by simp [hk4, hB2, wB, hV, hoc]) (by simp [hk4, hB2, wB]) (by simp) (by simp [hk4])) (take_cols h m V r hlr hml er _ fun n => ?_)
  simp [tk4, hk4, NV]
  obtain ⟨W, hW⟩ : ∃ W, colsS m r V 4 = W := ⟨_, rfl⟩
  have ei : W.length = 16 := by rw [← hW, colsS_len]; exact er
  refine loopW _ (weak_norm [0, 1, 2, 3] (tk6 r 0 .any) (hk4 h m W r) (by simp [tk6, NV]) (by simp [hk4, hB2, wB, hW]) (by simp [hk4, hB2, wB]) (by simp) (by simp [hk4])) (take_dias h m W r hlr hml ei _ fun n => ?_)
  simp [tk6, hk4, wB, hB2, NV, wr, -Int.natCast_add]
  exact round (r + 1) [0, 1, 2] (by omega) (by omega) (by simp [tk2, NV]) (by simp [hk2, hB2, wB, rndsS, hV, hW]) (by simp [hk2, hB2, wB]) (by simp) (by simp [hk2])
 ·have h10 : r = 10 := by omega
  subst h10
  simp [tk2, hk2, NV]
  exact hQ _
def tk8 (i : Nat) (e : EV) : List EV := [.v (.c (.ptr 0 0)), xA, xA, xA, xA, xA, xA, xA, xA, .v (.c (.ptr 1 0)), xA, xA, xA, xA, xA, xA, xA, xA, xA, xA, xA, xA, xA, xA, xA, xA, xA, xA, xA, xA, xA, xA, xA, xA, xA, xA, xA, xA, xA, xA, xA, xA, xA, xA, xA, xA, xA, xA, xA, xA, xA, xA, xA, xA, xA, xA, xA, xA, xA, xA, xA, xA, xA, xA, xA, xA, xA, xA, xA, xA, xA, xA, xA, xA, xA, xA, xA, xA, xA, xA, xA, xA, xA, xA, xA, xA, xA, xA, xA, xA, xA, xA, xA, xA, xA, xA, xA, xA, xA, xA, xA, xA, xA, xA, xA, xA, xA, xA, xA, xA, xA, xA, xA, xA, xA, xA, xA, xA, xA, xA, xA, xA, xA, xA, xA, xA, xA, xA, xA, xA, xA, xA, xA, xA, xA, xA, xA, xA, xA, xA, xA, xA, xA, NV i, e, xA, xA, xA, xA, xA, xA, xA, xA, xA, xA, xA, xA, xA, xA, xA, xA, xA, .any]
set_option maxRecDepth 8000 in
theorem take_xor (h V : List UInt32) (hh : h.length = 8) (er : V.length = 16) (Q : Exit → St → Go.EW.Tok → Prop) (hQ : ∀ n, Q (.exit 8) ⟨tk8 8 (.lit (.bool false)), ofO [hB2 (xorS h V 8), wB V], n⟩ .on) :
  LoopT Tryz.prog 1 (hid b_btake_130) Q ⟨tk8 0 .any, ofO [hB2 h, wB V], 2⟩ := by
 refine eloop (α := Nat) (fun i => i ≤ 8) (fun i => 8 - i) (fun i => tk8 i .any) (fun i => [hB2 (xorS h V i), wB V]) 0 [0, 1]
  (by omega) (by simp [tk8, NV]) (by simp [hB2, wB, xorS]) (by simp [hB2, wB]) (by simp) (by simp) ?_
 intro i hi
 have ei : (xorS h V i).length = 8 := by rw [xorS_len]; exact hh
 by_cases hli : i < 8
 ·have ii : (i : Int) < 8 := by omega
  have ij : (i : Int) < 16 := by omega
  have xl : i ≤ 7 := by omega
  have l16 : i < 16 := by omega
  have l8 : 8 + i < 16 := by omega
  have wi1 := wS (i := i) (by omega)
  have w8 : IntKind.i64.wrap (8 + (i : Int)) = ((8 + i : Nat) : Int) := by rw [wrap_i64 (by omega) (by omega)]; omega
  have j8 : ((8 + i : Nat) : Int) < 16 := by omega
  simp [tk8, hB2, wB, NV, ii, ij, xl, l16, l8, hli, wi1, w8, j8, ei, er, wl_gE, wl_put, wi_xor, -Int.natCast_add]
  exact round (i + 1) [0, 1] (by omega) (by omega) (by simp [tk8, NV]) (by simp [hB2, wB, xorS]) (by simp [hB2, wB]) (by simp) (by simp)
 ·have h8 : i = 8 := by omega
  subst h8
  simp [tk8, NV]
  exact hQ _
set_option maxRecDepth 8000 in
theorem btake_ok (h : List UInt32) (b : List UInt8) (t : Nat) (last : Bool) (hh : h.length = 8) (hb : b.length = 64) (ht : t < 18446744073709551616) :
  ECalls Tryz.prog 175 [.v (.c (.ptr 0 0)), BV b, .lit (.int .u64 t), .lit (.bool last)] [HO h] fun y H' => H' = [some (HO (takeS h b t last))] ∧ y = .tup [] := by
 have z16 : wl (mI b 0) = List.replicate 16 (EC.fz (.lit (.int .u32 0))) := by simp [mI, upW]; rfl
 have zz : wl Z16 = List.replicate 16 (EC.fz (.lit (.int .u32 0))) := by simp [wl, Z16]; rfl
 have th : List.take 8 (wl h) = wl h := List.tkL (by simp [hh])
 have f1 := wf_flat h 16 (by omega)
 have f2 := wf_sum h 16 (by omega)
 refine ecalls k_btake ?_
 simp [c_btake, BV, HO, hb, hh]
 refine loopW _ (weak_norm [0, 1, 17, 33] (tk0 t last 0 .any) (hk0 h b 0) (by simp [tk0, NV]) (by simp [hk0, hB2, wB, z16, zz]) (by simp [hk0, hB2, wB]) (by simp) (by simp [hk0])) (take_words h b t last hb _ fun n => ?_)
 have hml : (mI b 16).length = 16 := upW_len _ _
 have z16l : Z16.length = 16 := rfl
 have dz : List.drop 8 (wl Z16) = wl (Z16.drop 8) := wl_drop _ _
 simp [tk0, hk0, wB, hB2, NV, hb, hh, th, f1, f2, dz, wl_app, z16l]
 have tf : List.take 8 (wl firstW) = wl firstW := List.tkL (by simp; decide)
 have ff1 := wf_flat firstW 8 (by decide)
 have ff2 := wf_sum firstW 8 (by decide)
 have fl : firstW.length = 8 := rfl
 have tk : List.take 8 (wl (h ++ List.drop 8 Z16)) = wl h := by rw [wl_take, List.take_left' hh]
 have dk : List.drop 16 (wl (h ++ List.drop 8 Z16)) = [] := List.drop_of_length_le (by simp [hh, z16l])
 obtain ⟨v0, h0⟩ : ∃ w, h ++ firstW = w := ⟨_, rfl⟩
 have e0 : v0.length = 16 := by rw [← h0, List.length_append, hh, fl]
 obtain ⟨v1, h1⟩ : ∃ w, v0.set 12 (g v0 12 ^^^ lo32 t) = w := ⟨_, rfl⟩
 have e1 : v1.length = 16 := by rw [← h1, List.length_set]; exact e0
 obtain ⟨v2, h2⟩ : ∃ w, v1.set 13 (g v1 13 ^^^ hi32 t) = w := ⟨_, rfl⟩
 have e2 : v2.length = 16 := by rw [← h2, List.length_set]; exact e1
 have hini : iniS h t last = if last then v2.set 14 (~~~ g v2 14) else v2 := by unfold iniS; simp only [h0, h1, h2]
 have p12 : ∀ x, List.take 12 (wl v0) ++ .fz (.lit (.int .u32 (wi x))) :: List.drop 13 (wl v0) = wl (v0.set 12 x) := fun x => wl_put (by omega)
 have p13 : ∀ x, List.take 13 (wl v1) ++ .fz (.lit (.int .u32 (wi x))) :: List.drop 14 (wl v1) = wl (v1.set 13 x) := fun x => wl_put (by omega)
 have p14 : ∀ x, List.take 14 (wl v2) ++ .fz (.lit (.int .u32 (wi x))) :: List.drop 15 (wl v2) = wl (v2.set 14 x) := fun x => wl_put (by omega)
 refine call0 first_ok (by simp) ?_
 rintro y H' ⟨rfl, rfl⟩
 refine ⟨.inl (by simp), le_ok rfl, ?_⟩
 simp [NV, hb, hh, tf, ff1, ff2, fl, z16l, wl_app, tk, dk, h0, e0, e1, e2, wl_g, wl_gE, wi_xor, wi_lo, wi_hi, p12, p13, h1, h2]
 obtain ⟨v3, h3⟩ : ∃ w, iniS h t last = w := ⟨_, rfl⟩
 have e3 : v3.length = 16 := by rw [← h3, hini]; split <;> simp [e2]
 obtain ⟨m, hm⟩ : ∃ m, mI b 16 = m := ⟨_, rfl⟩
 rw [hm] at hml
 have er : (rndsS m v3 10).length = 16 := by rw [rndsS_len]; exact e3
 obtain ⟨V, hV⟩ : ∃ V, rndsS m v3 10 = V := ⟨_, rfl⟩
 rw [hV] at er
 have ht2 : takeS h b t last = xorS h V 8 := by unfold takeS; rw [hm, h3, hV]
 rw [ht2]
 refine alt (fun hl => ?_) (fun hl => ?_)
 case' refine_1 =>
  have h14 : v2.set 14 (~~~ g v2 14) = v3 := by rw [← h3, hini, if_pos hl]
  simp [e2, wl_g, wl_gE, pun_x32, p14, h14]
 case' refine_2 =>
  have h14 : v2 = v3 := by rw [← h3, hini, if_neg (by simpa using hl)]
  simp [h14]
 all_goals
  refine loopW _ (weak_norm [0, 2, 3] (tk2 0 .any) (hk2 h m v3) (by simp [tk2, NV]) (by simp [hk2, hB2, wB, hm]) (by simp [hk2, hB2, wB]) (by simp) (by simp [hk2])) (take_rnds h m v3 hml e3 _ fun n => ?_)
  simp [tk2, hk2, wB, hB2, NV]
  refine loopW _ (weak_norm [0, 2] (tk8 0 .any) [hB2 h, wB V] (by simp [tk8, NV]) (by simp [hB2, wB, hV]) (by simp [hB2, wB]) (by simp) (by simp)) (take_xor h V hh er _ fun n => ?_)
  simp [tk8, wB, hB2, NV]
  exact fin [] (by decide) rfl rfl (by simp [objsOut]) ⟨rfl, rfl⟩
theorem or_add {x y k : Nat} (h : x < 2 ^ k) : x ||| y * 2 ^ k = x + y * 2 ^ k := by
 have := Nat.two_pow_add_eq_or_of_lt h y
 rw [Nat.or_comm, Nat.mul_comm y, ← this]
 omega
theorem bw_nat (b : UInt8) : (bw b).toNat = b.toNat := by
 have := b.toNat_lt
 simp [bw]
theorem word_sum (a b c d : UInt8) : (((bw a ||| shl (bw b) 8) ||| shl (bw c) 16) ||| shl (bw d) 24).toNat = a.toNat + b.toNat * 2 ^ 8 + c.toNat * 2 ^ 16 + d.toNat * 2 ^ 24 := by
 have ha := a.toNat_lt
 have hb := b.toNat_lt
 have hc := c.toNat_lt
 have hd := d.toNat_lt
 have s1 : (shl (bw b) 8).toNat = b.toNat * 2 ^ 8 := by simp only [shl, bw_nat]; exact UInt32.toNat_ofNat_of_lt' (by show _ < 4294967296; omega)
 have s2 : (shl (bw c) 16).toNat = c.toNat * 2 ^ 16 := by simp only [shl, bw_nat]; exact UInt32.toNat_ofNat_of_lt' (by show _ < 4294967296; omega)
 have s3 : (shl (bw d) 24).toNat = d.toNat * 2 ^ 24 := by simp only [shl, bw_nat]; exact UInt32.toNat_ofNat_of_lt' (by show _ < 4294967296; omega)
 rw [UInt32.toNat_or, UInt32.toNat_or, UInt32.toNat_or, s1, s2, s3, bw_nat, or_add (x := a.toNat) (y := b.toNat) (k := 8) (by omega), or_add (x := a.toNat + b.toNat * 2 ^ 8) (y := c.toNat) (k := 16) (by omega), or_add (x := a.toNat + b.toNat * 2 ^ 8 + c.toNat * 2 ^ 16) (y := d.toNat) (k := 24) (by omega)]
theorem row_digit : ∀ r, r < 10 → ∀ j, j < 16 → ∃ c, (rowS r)[j]? = some c ∧ 48 ≤ c.toNat ∧ sN r j = if 97 ≤ c.toNat then c.toNat - 87 else c.toNat - 48 := by
 have h : ∀ r, r < 10 → ∀ j, j < 16 → (match (rowS r)[j]? with | some c => decide (48 ≤ c.toNat ∧ sN r j = if 97 ≤ c.toNat then c.toNat - 87 else c.toNat - 48) | none => false) = true := by decide +kernel
 intro r hr j hj
 have := h r hr j hj
 split at this
 ·rename_i c hc
  exact ⟨c, hc, of_decide_eq_true this⟩
 ·simp at this
def yl16k : UL | _ => [xQ 30 53 (.bsr 254 1 [(.int .u32 0)] 1 [(0, .t 52)]), xO 31 54 (.app 254 1 4 (.t 23) (.t 53)), xM 32 9 54]
def yl16l : UL | _ => xc 24 47 .add 46 3 :: xI 25 48 1 45 47 :: xL 26 49 48 :: xQ 27 50 (.cnv .u32 (.t 49)) :: xQ 28 51 (.bin .mul (.k (.int .u32 16777216)) (.t 50)) :: xb 29 52 .add 44 51 :: hid yl16k
def yl16m : UL | _ => xL 18 41 40 :: xQ 19 42 (.cnv .u32 (.t 41)) :: xQ 20 43 (.bin .mul (.k (.int .u32 65536)) (.t 42)) :: xb 21 44 .add 36 43 :: xM 22 45 1 :: xM 23 46 10 :: hid yl16l
def yl16n : UL | _ => xQ 12 35 (.bin .mul (.k (.int .u32 256)) (.t 34)) :: xb 13 36 .add 28 35 :: xM 14 37 1 :: xM 15 38 10 :: xc 16 39 .add 38 2 :: xI 17 40 1 37 39 :: hid yl16m
def yl16o : UL | _ => xM 6 29 1 :: xM 7 30 10 :: xc 8 31 .add 30 1 :: xI 9 32 1 29 31 :: xL 10 33 32 :: xQ 11 34 (.cnv .u32 (.t 33)) :: hid yl16n
def yl16p : UL | _ => xM 0 23 9 :: xM 1 24 1 :: xM 2 25 10 :: xI 3 26 1 24 25 :: xL 4 27 26 :: xQ 5 28 (.cnv .u32 (.t 27)) :: hid yl16o
def b_Btk_22 : UB | _ => .seq (.seq (reg0 [xM 0 19 10, xc 1 20 .lss 19 64] 2) (.cond (.t 20) .skip (.exit 0))) (.seq (.block 1 (reg0 (hid yl16p) 33)) (reg0 [xM 0 21 10, xc 1 22 .add 21 4, xM 2 10 22] 3))
def yl16s : UL | _ => [xM 0 55 11, xM 1 56 0, xO 2 57 (.app 254 1 4 (.t 55) (.t 56)), xO 3 58 (.call 200 []), xO 4 59 (.app 254 1 4 (.t 57) (.t 58)), xM 5 11 59]
def yl16t : UL | _ => [xQ 6 66 (.cnv .u32 (.t 65)), xb 7 67 .xor 63 66, xQ 8 68 (.isl 1 (.t 60) (xK 12)), xN 9 (.sto 1 (.t 68) (.t 67))]
def yl16u : UL | _ => xM 0 60 11 :: xM 1 61 11 :: xQ 2 62 (.isl 1 (.t 61) (xK 12)) :: xL 3 63 62 :: xM 4 64 2 :: xQ 5 65 (.bin .rem (.t 64) (.k (.int .u64 4294967296))) :: hid yl16t
def yl16v : UL | _ => [xQ 6 75 (.cnv .u32 (.t 74)), xb 7 76 .xor 72 75, xQ 8 77 (.isl 1 (.t 69) (xK 13)), xN 9 (.sto 1 (.t 77) (.t 76))]
def yl16w : UL | _ => xM 0 69 11 :: xM 1 70 11 :: xQ 2 71 (.isl 1 (.t 70) (xK 13)) :: xL 3 72 71 :: xM 4 73 2 :: xQ 5 74 (.bin .quo (.t 73) (.k (.int .u64 4294967296))) :: hid yl16v
def yl16y : UL | _ => [xN 6 (.sto 1 (.t 84) (.t 83))]
def yl16z : UL | _ => xM 0 79 11 :: xM 1 80 11 :: xQ 2 81 (.isl 1 (.t 80) (xK 14)) :: xL 3 82 81 :: xQ 4 83 (.bin .xor (.t 82) (.k (.int .u32 4294967295))) :: xQ 5 84 (.isl 1 (.t 79) (xK 14)) :: hid yl16y
def yl171 : UL | _ => [xQ 6 91 (.bsl 1 [xZ] 4 [(0, (xK 2)), (1, (xK 7)), (2, (xK 8)), (3, (xK 13))]), xQ 7 92 (.bsl 1 [xZ] 4 [(0, (xK 3)), (1, (xK 4)), (2, (xK 9)), (3, (xK 14))]), xO 8 93 (.fz (.q (.bsl 1 [xS] 8 [(0, .t 85), (1, .t 86), (2, .t 87), (3, .t 88), (4, .t 89), (5, .t 90), (6, .t 91), (7, .t 92)]))), xM 9 12 93]
def yl172 : UL | _ => xQ 0 85 (.bsl 1 [xZ] 4 [(0, (xK 0)), (1, (xK 4)), (2, (xK 8)), (3, (xK 12))]) :: xQ 1 86 (.bsl 1 [xZ] 4 [(0, (xK 1)), (1, (xK 5)), (2, (xK 9)), (3, (xK 13))]) :: xQ 2 87 (.bsl 1 [xZ] 4 [(0, (xK 2)), (1, (xK 6)), (2, (xK 10)), (3, (xK 14))]) :: xQ 3 88 (.bsl 1 [xZ] 4 [(0, (xK 3)), (1, (xK 7)), (2, (xK 11)), (3, (xK 15))]) :: xQ 4 89 (.bsl 1 [xZ] 4 [(0, (xK 0)), (1, (xK 5)), (2, (xK 10)), (3, (xK 15))]) :: xQ 5 90 (.bsl 1 [xZ] 4 [(0, (xK 1)), (1, (xK 6)), (2, (xK 11)), (3, (xK 12))]) :: hid yl171
def yl178 : UL | _ => [xM 0 104 12, xM 1 105 15, xI 2 106 1 104 105, xL 3 107 106, xM 4 16 107]
def yl179 : UL | _ => [xO 30 138 (.call 215 [.t 108, .t 111, .t 114, .t 117, .t 120, .t 128, .t 137])]
def yl17a : UL | _ => ⟨18, (some 126), none, (.call 216 [.t 125]), [0, 1, 2, 3, 4, 5, 6, 7, 8, 9, 10, 11, 12, 13, 21, 22, 23, 24, 25, 26]⟩ :: xI 19 127 1 121 126 :: xL 20 128 127 :: ⟨27, (some 135), none, (.call 216 [.t 134]), [0, 1, 2, 3, 4, 5, 6, 7, 8, 9, 10, 11, 12, 13, 21, 19, 20]⟩ :: xI 28 136 1 129 135 :: xL 29 137 136 :: hid yl179
def yl17b : UL | _ => xM 21 129 9 :: xM 22 130 14 :: xM 23 131 15 :: xQ 24 132 (.bin .mul (xK 2) (.t 131)) :: xc 25 133 .add 132 1 :: xQ 26 134 (.ixs (.t 130) (.t 133)) :: hid yl17a
def yl17c : UL | _ => xL 12 120 119 :: xM 13 121 9 :: xM 14 122 14 :: xM 15 123 15 :: xQ 16 124 (.bin .mul (xK 2) (.t 123)) :: xQ 17 125 (.ixs (.t 122) (.t 124)) :: hid yl17b
def yl17d : UL | _ => xL 6 114 113 :: xM 7 115 16 :: xQ 8 116 (.isl 1 (.t 115) (xK 2)) :: xL 9 117 116 :: xM 10 118 16 :: xQ 11 119 (.isl 1 (.t 118) (xK 3)) :: hid yl17c
def yl17e : UL | _ => xM 0 108 11 :: xM 1 109 16 :: xQ 2 110 (.isl 1 (.t 109) (xK 0)) :: xL 3 111 110 :: xM 4 112 16 :: xQ 5 113 (.isl 1 (.t 112) (xK 1)) :: hid yl17d
def b_Btk_74 : UB | _ => .seq (.seq (reg0 [xM 0 100 15, xc 1 101 .lss 100 8] 2) (.cond (.t 101) .skip (.exit 4))) (.seq (.block 5 (.seq (reg0 (hid yl178) 5) (reg1 (hid yl17e) 31))) (reg0 [xM 0 102 15, xc 1 103 .add 102 1, xM 2 15 103] 3))
def b_Btk_83 : UB | _ => .seq (.seq (reg0 [xM 0 94 13, xc 1 95 .lss 94 10] 2) (.cond (.t 95) .skip (.exit 2))) (.seq (.block 3 (.seq (reg0 [xM 0 98 13, xO 1 99 (.call 214 [.t 98]), xM 2 14 99] 3) (.seq (reg0 [xC 0 15 0] 1) (.block 4 (.loop (hid b_Btk_74)))))) (reg0 [xM 0 96 13, xc 1 97 .add 96 1, xM 2 13 97] 3))
def yl17m : UL | _ => [xM 18 17 160]
def yl17n : UL | _ => xc 12 155 .add 154 8 :: xI 13 156 1 153 155 :: xL 14 157 156 :: xb 15 158 .xor 152 157 :: xQ 16 159 (.bsr 254 1 [(.int .u32 0)] 1 [(0, .t 158)]) :: xO 17 160 (.app 254 1 4 (.t 143) (.t 159)) :: hid yl17m
def yl17o : UL | _ => xM 6 149 18 :: xI 7 150 1 148 149 :: xL 8 151 150 :: xb 9 152 .xor 147 151 :: xM 10 153 11 :: xM 11 154 18 :: hid yl17n
def yl17p : UL | _ => xM 0 143 17 :: xM 1 144 0 :: xM 2 145 18 :: xI 3 146 1 144 145 :: xL 4 147 146 :: xM 5 148 11 :: hid yl17o
def b_Btk_104 : UB | _ => .seq (.seq (reg0 [xM 0 139 18, xc 1 140 .lss 139 8] 2) (.cond (.t 140) .skip (.exit 6))) (.seq (.block 7 (reg0 (hid yl17p) 19)) (reg0 [xM 0 141 18, xc 1 142 .add 141 1, xM 2 18 142] 3))
def yb17t : UB | _ => .seq (.seq (reg0 [xC 0 13 0] 1) (.block 2 (.loop (hid b_Btk_83)))) (.seq (reg0 [xQ 0 17 (.mov (.k xS))] 1) (.seq (.seq (reg0 [xC 0 18 0] 1) (.block 6 (.loop (hid b_Btk_104)))) (.seq (reg0 [xM 0 161 17, xM 1 8 161] 2) .ret)))
def yb17u : UB | _ => .seq (reg0 (hid yl16w) 10) (.seq (.seq (reg0 [xM 0 78 3] 1) (.cond (.t 78) (reg0 (hid yl16z) 7) .skip)) (.seq (reg0 (hid yl172) 10) (hid yb17t)))
def yb17v : UB | _ => .seq (reg0 (hid yl16s) 6) (.seq (reg0 (hid yl16u) 10) (hid yb17u))
def yb17w : UB | _ => .seq (.seq (reg0 [xC 0 10 0] 1) (.block 0 (.loop (hid b_Btk_22)))) (.seq (reg0 [xQ 0 11 (.mov (.k xS))] 1) (hid yb17v))
def yb17x : UB | _ => .seq (reg0 [xQ 0 8 (.mov (.k xS))] 1) (.seq (reg0 [xQ 0 9 (.mov (.k xS))] 1) (hid yb17w))
attribute [simp] yl16k yl16l yl16m yl16n yl16o yl16p b_Btk_22 yl16s yl16t yl16u yl16v yl16w yl16y yl16z yl171 yl172 yl178 yl179 yl17a yl17b yl17c yl17d yl17e b_Btk_74 b_Btk_83 yl17m yl17n yl17o yl17p b_Btk_104 yb17t yb17u yb17v yb17w yb17x
def c_Btk : EB × List QOp × Nat := ((hid yb17x), [(.mov (.t 8))], 162)
theorem k_Btk : cfun Tryz.prog 201 = some c_Btk := by kernel_rfl
def FW (l : List UInt32) : EV := .v (.c (.fz (.sl 1 (wrw l))))
def mW (b : List UInt8) (i : Nat) : List UInt32 := (List.range i).map (wordS b)
theorem mW_len (b : List UInt8) (i : Nat) : (mW b i).length = i := by simp [mW]
theorem mW_succ (b : List UInt8) (i : Nat) : wrw (mW b i) ++ [[.lit (.int .u32 (wi (wordS b i)))]] = wrw (mW b (i + 1)) := by simp [mW, wrw, List.range_succ]
theorem u32_sum (a b c d : UInt8) : IntKind.u32.wrap (IntKind.u32.wrap (IntKind.u32.wrap (wi (bw a) + IntKind.u32.wrap (256 * wi (bw b))) + IntKind.u32.wrap (65536 * wi (bw c))) + IntKind.u32.wrap (16777216 * wi (bw d))) = wi (((bw a ||| shl (bw b) 8) ||| shl (bw c) 16) ||| shl (bw d) 24) := by
 have ha := a.toNat_lt
 have hb := b.toNat_lt
 have hc := c.toNat_lt
 have hd := d.toNat_lt
 have h := word_sum a b c d
 simp only [u32_mod, wi, bw_nat, h]
 omega
def bk0 (h : List UInt32) (b : List UInt8) (t : Nat) (last : Bool) (i : Nat) (f e : EV) : List EV := [FW h, Bs b, .lit (.int .u64 t), .lit (.bool last), xA, xA, xA, xA, xA, .v (.c (.row 0 i)), NV ((4 * i : Nat) : Int), xA, xA, xA, xA, xA, xA, xA, xA, f, e, xA, xA, xA, xA, xA, xA, xA, xA, xA, xA, xA, xA, xA, xA, xA, xA, xA, xA, xA, xA, xA, xA, xA, xA, xA, xA, xA, xA, xA, xA, xA, xA, xA, xA, xA, xA, xA, xA, xA, xA, xA, xA, xA, xA, xA, xA, xA, xA, xA, xA, xA, xA, xA, xA, xA, xA, xA, xA, xA, xA, xA, xA, xA, xA, xA, xA, xA, xA, xA, xA, xA, xA, xA, xA, xA, xA, xA, xA, xA, xA, xA, xA, xA, xA, xA, xA, xA, xA, xA, xA, xA, xA, xA, xA, xA, xA, xA, xA, xA, xA, xA, xA, xA, xA, xA, xA, xA, xA, xA, xA, xA, xA, xA, xA, xA, xA, xA, xA, xA, xA, xA, xA, xA, xA, xA, xA, xA, xA, xA, xA, xA, xA, xA, xA, xA, xA, xA, xA, xA, xA, .any]
def bh0 (b : List UInt8) (i : Nat) : List (Option EO) := [some (.row 254 1 (wrw (mW b i)))]
@[simp] theorem bh0_len (b : List UInt8) (i : Nat) : (bh0 b i).length = 1 := rfl
theorem bsv_gE (b : List UInt8) (k : Nat) (h2 : k < (bsv b).length) : (bsv b)[k]'h2 = [.lit (.int .u8 ((g8 b k).toNat : Int))] := by
 have hl : k < b.length := by simpa using h2
 simp [bsv, cb, g8, hl]
set_option maxRecDepth 8000 in
theorem bk_words (h : List UInt32) (b : List UInt8) (t : Nat) (last : Bool) (hb : b.length = 64) (Q : Exit → St → Go.EW.Tok → Prop) (hQ : Q (.exit 0) ⟨bk0 h b t last 16 (NV 64) (.lit (.bool false)), ofO (bh0 b 16), 33⟩ .on) :
  LoopT Tryz.prog 0 (hid b_Btk_22) Q ⟨bk0 h b t last 0 .any .any, ofO (bh0 b 0), 1⟩ := by
 refine eloop (α := Nat) (fun i => i ≤ 16) (fun i => 16 - i) (fun i => bk0 h b t last i .any .any) (fun i => bh0 b i) 0 [0]
  (by omega) (by simp [bk0, NV, FW, Bs]) (by simp [bh0]) (by simp [bh0]) (by simp) (by simp [bh0]) ?_
 intro i hi
 have hml := mW_len b i
 by_cases hlt : i < 16
 ·obtain ⟨k, hk⟩ : ∃ k, 4 * i = k := ⟨_, rfl⟩
  have w1 : IntKind.i64.wrap ((k : Int) + 1) = ((k + 1 : Nat) : Int) := wrap_i64 (by omega) (by omega)
  have w2 : IntKind.i64.wrap ((k : Int) + 2) = ((k + 2 : Nat) : Int) := wrap_i64 (by omega) (by omega)
  have w3 : IntKind.i64.wrap ((k : Int) + 3) = ((k + 3 : Nat) : Int) := wrap_i64 (by omega) (by omega)
  have w4 : IntKind.i64.wrap ((k : Int) + 4) = ((4 * (i + 1) : Nat) : Int) := by rw [wrap_i64 (by omega) (by omega)]; omega
  have j : (k : Int) < 64 := by omega
  have k0 : k < b.length := by omega
  have k1 : k + 1 < b.length := by omega
  have k2 : k + 2 < b.length := by omega
  have k3 : k + 3 < b.length := by omega
  have hw : ((bw (g8 b k) ||| shl (bw (g8 b (k + 1))) 8) ||| shl (bw (g8 b (k + 2))) 16) ||| shl (bw (g8 b (k + 3))) 24 = wordS b i := by rw [← hk]; rfl
  have hs := u32_sum (g8 b k) (g8 b (k + 1)) (g8 b (k + 2)) (g8 b (k + 3))
  rw [hw] at hs
  simp [bk0, bh0, NV, FW, Bs, hk, w1, w2, w3, w4, j, k0, k1, k2, k3, hml, bsv_gE, wi_bw, hs, mW_succ, -Int.natCast_add]
  refine ⟨by omega, ?_⟩
  exact round (i + 1) [529] (by omega) (by omega) (by simp [bk0, NV, FW, Bs]) (by simp [bh0]) (by simp [bh0]) (by simp) (by simp [bh0])
 ·have hi16 : i = 16 := by omega
  subst hi16
  have q := hQ
  simp [bk0, bh0, NV, FW, Bs] at q ⊢
  exact q
def qpA (i : Nat) : Nat := i % 4
def qpB (i : Nat) : Nat := if i < 4 then 4 + i else 4 + (i - 4 + 1) % 4
def qpC (i : Nat) : Nat := if i < 4 then 8 + i else 8 + (i - 4 + 2) % 4
def qpD (i : Nat) : Nat := if i < 4 then 12 + i else 12 + (i - 4 + 3) % 4
def nF (n : Nat) : List FV := [.lit (.int .i64 (n : Int))]
def tabF : List (List FV) := (List.range 8).map fun i => [.sl 1 [nF (qpA i), nF (qpB i), nF (qpC i), nF (qpD i)]]
def stpS (m : List UInt32) (r i : Nat) (v : List UInt32) : List UInt32 := mixS v (qpA i) (qpB i) (qpC i) (qpD i) (g m (sN r (2 * i))) (g m (sN r (2 * i + 1)))
def stpsS (m : List UInt32) (r : Nat) (v : List UInt32) : Nat → List UInt32
 | 0 => v
 | k + 1 => stpS m r k (stpsS m r v k)
theorem stps_rnd (m : List UInt32) (r : Nat) (v : List UInt32) : stpsS m r v 8 = diasS m r (colsS m r v 4) 4 := rfl
theorem stps_len (m : List UInt32) (r : Nat) (v : List UInt32) : ∀ k, (stpsS m r v k).length = v.length
 | 0 => rfl
 | k + 1 => by simp only [stpsS, stpS, mixS_len]; exact stps_len m r v k
theorem pA_lt (i : Nat) (h : i < 8) : qpA i < 16 ∧ qpB i < 16 ∧ qpC i < 16 ∧ qpD i < 16 := ⟨by unfold qpA; omega, by unfold qpB; split <;> omega, by unfold qpC; split <;> omega, by unfold qpD; split <;> omega⟩
theorem tab_get (i : Nat) (h : i < 8) : tabF[i]? = some [.sl 1 [nF (qpA i), nF (qpB i), nF (qpC i), nF (qpD i)]] := by simp [tabF, h]
def bk4 (h : List UInt32) (r i : Nat) (f e : EV) : List EV := [FW h, xA, xA, xA, xA, xA, xA, xA, xA, .v (.c (.row 0 16)), xA, .v (.c (.row 1 16)), .v (.c (.fz (.sl 1 tabF))), NV r, .lit (.string (strb (rowS r))), NV i, xA, xA, xA, xA, xA, xA, xA, xA, xA, xA, xA, xA, xA, xA, xA, xA, xA, xA, xA, xA, xA, xA, xA, xA, xA, xA, xA, xA, xA, xA, xA, xA, xA, xA, xA, xA, xA, xA, xA, xA, xA, xA, xA, xA, xA, xA, xA, xA, xA, xA, xA, xA, xA, xA, xA, xA, xA, xA, xA, xA, xA, xA, xA, xA, xA, xA, xA, xA, xA, xA, xA, xA, xA, xA, xA, xA, xA, xA, xA, xA, xA, xA, xA, xA, f, e, xA, xA, xA, xA, xA, xA, xA, xA, xA, xA, xA, xA, xA, xA, xA, xA, xA, xA, xA, xA, xA, xA, xA, xA, xA, xA, xA, xA, xA, xA, xA, xA, xA, xA, xA, xA, xA, xA, xA, xA, xA, xA, xA, xA, xA, xA, xA, xA, xA, xA, xA, xA, xA, xA, xA, xA, xA, xA, xA, .any]
def bh4 (m v : List UInt32) : List (Option EO) := [some (.row 254 1 (wrw m)), some (.row 254 1 (wrw v))]
@[simp] theorem bh4_len (m v : List UInt32) : (bh4 m v).length = 2 := rfl
set_option maxRecDepth 8000 in
theorem bk_steps (h m V : List UInt32) (r : Nat) (hr : r < 10) (hm : m.length = 16) (hV : V.length = 16) (Q : Exit → St → Go.EW.Tok → Prop) (hQ : Q (.exit 4) ⟨bk4 h r 8 (NV 8) (.lit (.bool false)), ofO (bh4 m (stpsS m r V 8)), 34⟩ .on) :
  LoopT Tryz.prog 0 (hid b_Btk_74) Q ⟨bk4 h r 0 .any .any, ofO (bh4 m V), 2⟩ := by
 refine eloop (α := Nat) (fun i => i ≤ 8) (fun i => 8 - i) (fun i => bk4 h r i .any .any) (fun i => bh4 m (stpsS m r V i)) 0 [0, 1]
  (by omega) (by simp [bk4, NV, FW]) (by simp [bh4, stpsS]) (by simp [bh4]) (by simp) (by simp) ?_
 intro i hi
 have hml := stps_len m r V i
 by_cases hlt : i < 8
 ·have j : (i : Int) < 8 := by omega
  have tg := tab_get i hlt
  obtain ⟨la, lb, lc, ld⟩ := pA_lt i hlt
  obtain ⟨c0, d0, d1, d2⟩ := row_digit r hr (2 * i) (by omega)
  obtain ⟨c1, f0, f1, f2⟩ := row_digit r hr (2 * i + 1) (by omega)
  have w0 : IntKind.i64.wrap (2 * (i : Int)) = ((2 * i : Nat) : Int) := by rw [wrap_i64 (by omega) (by omega)]; omega
  have w1 : IntKind.i64.wrap (((2 * i : Nat) : Int) + 1) = ((2 * i + 1 : Nat) : Int) := wrap_i64 (by omega) (by omega)
  have w2 := wS (i := i) (by omega)
  have ia : (qpA i : Int) < 16 := by omega
  have ib : (qpB i : Int) < 16 := by omega
  have ic : (qpC i : Int) < 16 := by omega
  have id' : (qpD i : Int) < 16 := by omega
  simp [bk4, bh4, NV, FW, hlt, j, tg, nF, la, lb, lc, ld, w0, -Int.natCast_mul]
  have g0 : (strb (rowS r)).data[2 * i]? = some c0 := by simpa [strb] using d0
  have g1 : (strb (rowS r)).data[2 * i + 1]? = some c1 := by simpa [strb] using f0
  have n0 := sN_lt r hr (2 * i) (by omega)
  have n1 := sN_lt r hr (2 * i + 1) (by omega)
  have z0 : (sN r (2 * i) : Int) < 16 := by omega
  have z1 : (sN r (2 * i + 1) : Int) < 16 := by omega
  simp [g0, w0, w1, g1, -Int.natCast_mul, -Int.natCast_add]
  refine call0 (Bdigit_ok c0 (sN r (2 * i)) d2 d1) (by simp) ?_
  rintro y H' ⟨rfl, rfl⟩
  refine ⟨.inl (by simp), by simp, ?_⟩
  simp [NV, w0, w1, g1, hm, n0, n1, z0, z1, wrw_gE', -Int.natCast_mul, -Int.natCast_add]
  refine call0 (Bdigit_ok c1 (sN r (2 * i + 1)) f2 f1) (by simp) ?_
  rintro y H' ⟨rfl, rfl⟩
  refine ⟨.inl (by simp), by simp, ?_⟩
  simp [NV, w0, w1, g1, hm, n0, n1, z0, z1, wrw_gE', -Int.natCast_mul, -Int.natCast_add]
  refine callH [1] (Bstep_ok (stpsS m r V i) (qpA i) (qpB i) (qpC i) (qpD i) (g m (sN r (2 * i))) (g m (sN r (2 * i + 1))) (by omega) la lb lc ld) (by simp [NV, WV]) (by simp) (by simp) (by simp) (by simp) ?_
  rintro y H' ⟨rfl, rfl⟩
  refine ⟨.inl (by simp), by simp, ?_⟩
  simp [NV, w2, -Int.natCast_add]
  exact round (i + 1) [0, 1] (by omega) (by omega) (by simp [bk4, NV, FW]) (by simp [bh4, stpsS, stpS]) (by simp [bh4]) (by simp) (by simp)
 ·have hi8 : i = 8 := by omega
  subst hi8
  have q := hQ
  simp [bk4, bh4, NV, FW] at q ⊢
  exact q
def bk2 (h : List UInt32) (r : Nat) (f e : EV) : List EV := [FW h, xA, xA, xA, xA, xA, xA, xA, xA, .v (.c (.row 0 16)), xA, .v (.c (.row 1 16)), .v (.c (.fz (.sl 1 tabF))), NV r, xA, xA, xA, xA, xA, xA, xA, xA, xA, xA, xA, xA, xA, xA, xA, xA, xA, xA, xA, xA, xA, xA, xA, xA, xA, xA, xA, xA, xA, xA, xA, xA, xA, xA, xA, xA, xA, xA, xA, xA, xA, xA, xA, xA, xA, xA, xA, xA, xA, xA, xA, xA, xA, xA, xA, xA, xA, xA, xA, xA, xA, xA, xA, xA, xA, xA, xA, xA, xA, xA, xA, xA, xA, xA, xA, xA, xA, xA, xA, xA, f, e, xA, xA, xA, xA, xA, xA, xA, xA, xA, xA, xA, xA, xA, xA, xA, xA, xA, xA, xA, xA, xA, xA, xA, xA, xA, xA, xA, xA, xA, xA, xA, xA, xA, xA, xA, xA, xA, xA, xA, xA, xA, xA, xA, xA, xA, xA, xA, xA, xA, xA, xA, xA, xA, xA, xA, xA, xA, xA, xA, xA, xA, xA, xA, xA, xA, .any]
set_option maxRecDepth 8000 in
theorem bk_rnds (h m V : List UInt32) (hm : m.length = 16) (hV : V.length = 16) (Q : Exit → St → Go.EW.Tok → Prop) (hQ : Q (.exit 2) ⟨bk2 h 10 (NV 10) (.lit (.bool false)), ofO (bh4 m (rndsS m V 10)), 34⟩ .on) :
  LoopT Tryz.prog 0 (hid b_Btk_83) Q ⟨bk2 h 0 .any .any, ofO (bh4 m V), 2⟩ := by
 refine eloop (α := Nat) (fun i => i ≤ 10) (fun i => 10 - i) (fun i => bk2 h i .any .any) (fun i => bh4 m (rndsS m V i)) 0 [0, 1]
  (by omega) (by simp [bk2, NV, FW]) (by simp [bh4, rndsS]) (by simp [bh4]) (by simp) (by simp) ?_
 intro r hr
 have hml : (rndsS m V r).length = 16 := by rw [rndsS_len]; exact hV
 by_cases hlt : r < 10
 ·have j : (r : Int) < 10 := by omega
  have w2 : IntKind.i64.wrap ((r : Int) + 1) = ((r + 1 : Nat) : Int) := wrap_i64 (by omega) (by omega)
  simp [bk2, bh4, NV, FW, hlt, j]
  refine call0 (Brow_ok r hlt) (by simp [NV]) ?_
  rintro y H' ⟨rfl, rfl⟩
  refine ⟨.inl (by simp), by simp, ?_⟩
  simp [NV]
  refine loopW _ (weak_norm [0, 1] (bk4 h r 0 .any .any) (bh4 m (rndsS m V r)) (by simp [bk4, NV, FW]) (by simp [bh4]) (by simp [bh4]) (by simp) (by simp)) (bk_steps h m _ r hlt hm hml _ ?_)
  rw [stps_rnd]
  simp [bk4, bh4, NV, FW, w2, -Int.natCast_add]
  exact round (r + 1) [0, 1] (by omega) (by omega) (by simp [bk2, NV, FW]) (by simp [bh4, rndsS]) (by simp [bh4]) (by simp) (by simp)
 ·have hi8 : r = 10 := by omega
  subst hi8
  have q := hQ
  simp [bk2, bh4, NV, FW] at q ⊢
  exact q
def sxF (h v : List UInt32) (i : Nat) : UInt32 := g h i ^^^ g v i ^^^ g v (i + 8)
def sxW (h v : List UInt32) (i : Nat) : List UInt32 := (List.range i).map (sxF h v)
theorem xW_len (h v : List UInt32) (i : Nat) : (sxW h v i).length = i := by simp [sxW]
theorem xW_succ (h v : List UInt32) (i : Nat) : wrw (sxW h v i) ++ [[.lit (.int .u32 (wi (g h i ^^^ g v i ^^^ g v (i + 8))))]] = wrw (sxW h v (i + 1)) := by simp [sxW, sxF, wrw, List.range_succ]
def bk6 (h : List UInt32) (i : Nat) (f e : EV) : List EV := [FW h, xA, xA, xA, xA, xA, xA, xA, xA, xA, xA, .v (.c (.row 0 16)), xA, xA, xA, xA, xA, .v (.c (.row 1 i)), NV i, xA, xA, xA, xA, xA, xA, xA, xA, xA, xA, xA, xA, xA, xA, xA, xA, xA, xA, xA, xA, xA, xA, xA, xA, xA, xA, xA, xA, xA, xA, xA, xA, xA, xA, xA, xA, xA, xA, xA, xA, xA, xA, xA, xA, xA, xA, xA, xA, xA, xA, xA, xA, xA, xA, xA, xA, xA, xA, xA, xA, xA, xA, xA, xA, xA, xA, xA, xA, xA, xA, xA, xA, xA, xA, xA, xA, xA, xA, xA, xA, xA, xA, xA, xA, xA, xA, xA, xA, xA, xA, xA, xA, xA, xA, xA, xA, xA, xA, xA, xA, xA, xA, xA, xA, xA, xA, xA, xA, xA, xA, xA, xA, xA, xA, xA, xA, xA, xA, xA, xA, f, e, xA, xA, xA, xA, xA, xA, xA, xA, xA, xA, xA, xA, xA, xA, xA, xA, xA, xA, xA, xA, .any]
def bh6 (h v : List UInt32) (i : Nat) : List (Option EO) := [some (.row 254 1 (wrw v)), some (.row 254 1 (wrw (sxW h v i)))]
@[simp] theorem bh6_len (h v : List UInt32) (i : Nat) : (bh6 h v i).length = 2 := rfl
set_option maxRecDepth 8000 in
theorem bk_xor (h v : List UInt32) (hh : h.length = 8) (hv : v.length = 16) (Q : Exit → St → Go.EW.Tok → Prop) (hQ : Q (.exit 6) ⟨bk6 h 8 (NV 8) (.lit (.bool false)), ofO (bh6 h v 8), 34⟩ .on) :
  LoopT Tryz.prog 0 (hid b_Btk_104) Q ⟨bk6 h 0 .any .any, ofO (bh6 h v 0), 2⟩ := by
 refine eloop (α := Nat) (fun i => i ≤ 8) (fun i => 8 - i) (fun i => bk6 h i .any .any) (fun i => bh6 h v i) 0 [0, 1]
  (by omega) (by simp [bk6, NV, FW]) (by simp [bh6]) (by simp [bh6]) (by simp) (by simp) ?_
 intro i hi
 have hml := xW_len h v i
 by_cases hlt : i < 8
 ·have j : (i : Int) < 8 := by omega
  have j2 : (i : Int) < 16 := by omega
  have k2 : i < 16 := by omega
  have w2 := wS (i := i) (by omega)
  have w8 : IntKind.i64.wrap ((i : Int) + 8) = ((i + 8 : Nat) : Int) := wrap_i64 (by omega) (by omega)
  have j8 : ((i + 8 : Nat) : Int) < 16 := by omega
  have k8 : i + 8 < 16 := by omega
  simp [bk6, bh6, NV, FW, hlt, j, j2, k2, w2, w8, j8, k8, hh, hv, hml, wrw_gE', wi_xor, xW_succ, -Int.natCast_add]
  refine ⟨by omega, ?_⟩
  exact round (i + 1) [0, 306] (by omega) (by omega) (by simp [bk6, NV, FW]) (by simp [bh6]) (by simp [bh6]) (by simp) (by simp)
 ·have hi8 : i = 8 := by omega
  subst hi8
  have q := hQ
  simp [bk6, bh6, NV, FW] at q ⊢
  exact q
theorem wrw_app (l r : List UInt32) : wrw l ++ wrw r = wrw (l ++ r) := by simp [wrw]
theorem mW_mI (b : List UInt8) : mW b 16 = mI b 16 := by
 unfold mW mI upW
 refine List.map_congr_left fun j hj => ?_
 rw [if_pos (List.mem_range.1 hj)]
theorem xW_xorS {h v : List UInt32} (hh : h.length = 8) : sxW h v 8 = xorS h v 8 := by
 match h, hh with
 | [h0, h1, h2, h3, h4, h5, h6, h7], _ =>
  simp [sxW, sxF, xorS, g, List.range_succ, UInt32.xor_assoc]
set_option maxRecDepth 8000 in
theorem Btk_ok (h : List UInt32) (b : List UInt8) (t : Nat) (last : Bool) (hh : h.length = 8) (hb : b.length = 64) (ht : t < 18446744073709551616) :
  ECalls Tryz.prog 201 [FW h, Bs b, .lit (.int .u64 t), .lit (.bool last)] [] fun y H' => H' = [some (.row 254 1 (wrw (takeS h b t last)))] ∧ y = .v (.c (.row 0 8)) := by
 refine ecalls k_Btk ?_
 simp [c_Btk, FW, Bs]
 refine loopW _ (weak_nilR 9 254 1 rfl (by decide)) ?_
 simp
 refine loopW _ (weak_norm [48] (bk0 h b t last 0 .any .any) (bh0 b 0) (by simp [bk0, NV, FW, Bs]) (by simp [bh0, mW, wrw]) (by simp [bh0]) (by simp) (by simp [bh0])) (bk_words h b t last hb _ ?_)
 simp [bk0, bh0, NV, FW, Bs, hh]
 refine call0 Bbegin_ok (by simp) ?_
 rintro y H' ⟨rfl, rfl⟩
 refine ⟨.inl (by simp), by simp, ?_⟩
 have fl : firstW.length = 8 := rfl
 have tf : List.take 8 (wrw firstW) = wrw firstW := List.tkL (by simp; decide)
 simp [hh, fl, tf, wrw_app]
 obtain ⟨v0, h0⟩ : ∃ w, h ++ firstW = w := ⟨_, rfl⟩
 have e0 : v0.length = 16 := by rw [← h0, List.length_append, hh, fl]
 have wl0 : IntKind.u32.wrap ((t : Int) % 4294967296) = wi (lo32 t) := by rw [← wi_lo]; simp only [u32_mod]; omega
 have tm : ((t : Int)).tmod 4294967296 = (t : Int) % 4294967296 := Int.tmod_eq_emod_of_nonneg (by omega)
 have td : ((t : Int)).tdiv 4294967296 = (t : Int) / 4294967296 := Int.tdiv_eq_ediv_of_nonneg (by omega)
 obtain ⟨v1, h1⟩ : ∃ w, v0.set 12 (g v0 12 ^^^ lo32 t) = w := ⟨_, rfl⟩
 have e1 : v1.length = 16 := by rw [← h1, List.length_set]; exact e0
 obtain ⟨v2, h2⟩ : ∃ w, v1.set 13 (g v1 13 ^^^ hi32 t) = w := ⟨_, rfl⟩
 have e2 : v2.length = 16 := by rw [← h2, List.length_set]; exact e1
 have hini : iniS h t last = if last then v2.set 14 (~~~ g v2 14) else v2 := by unfold iniS; simp only [h0, h1, h2]
 have wu : IntKind.u64.wrap ((t : Int) / 4294967296) = (t : Int) / 4294967296 := wrap_u64 (by omega) (by omega)
 simp [h0, e0, wrw_gE', wrw_set, wi_lo, wl0, tm, td, wu, wi_hi, wi_xor, h1, e1, h2, e2]
 obtain ⟨v3, h3⟩ : ∃ w, iniS h t last = w := ⟨_, rfl⟩
 have e3 : v3.length = 16 := by rw [← h3, hini]; split <;> simp [e2]
 have xn : ibit .xor .u32 (wi (g v2 14)) 4294967295 = wi (~~~ g v2 14) := by
  have := wi_xor (g v2 14) 0xffffffff
  rw [show wi 0xffffffff = 4294967295 from rfl] at this
  rw [this, show g v2 14 ^^^ 0xffffffff = ~~~ g v2 14 from UInt32.toBitVec_inj.1 (by rw [UInt32.toBitVec_xor, UInt32.toBitVec_not]; exact BitVec.xor_allOnes)]
 refine alt (fun hl => ?_) (fun hl => ?_)
 case' refine_1 =>
  have h14 : v2.set 14 (~~~ g v2 14) = v3 := by rw [← h3, hini, if_pos hl]
  simp [e2, wrw_gE', wrw_set, xn, h14]
 case' refine_2 =>
  have h14 : v2 = v3 := by rw [← h3, hini, if_neg (by simpa using hl)]
  simp [h14]
 all_goals
  refine loopW _ (weak_norm [0, 113] (bk2 h 0 .any .any) (bh4 (mW b 16) v3) (by simp [bk2, NV, FW, tabF, List.range_succ, nF, qpA, qpB, qpC, qpD]) (by simp [bh4]) (by simp [bh4]) (by simp) (by simp)) (bk_rnds h (mW b 16) v3 (mW_len b 16) e3 _ ?_)
  have er : (rndsS (mW b 16) v3 10).length = 16 := by rw [rndsS_len]; exact e3
  simp [bk2, bh4, NV, FW]
  refine loopW _ (weak_nilR 17 254 1 rfl (by decide)) ?_
  simp
  refine loopW _ (weak_norm [1, 66] (bk6 h 0 .any .any) (bh6 h (rndsS (mW b 16) v3 10) 0) (by simp [bk6, NV, FW]) (by simp [bh6, sxW, wrw]) (by simp [bh6]) (by simp) (by simp)) (bk_xor h _ hh er _ ?_)
  simp [bk6, bh6, NV, FW]
  refine fin [1] (by decide) rfl rfl rfl ⟨?_, rfl⟩
  have ht2 : takeS h b t last = sxW h (rndsS (mW b 16) v3 10) 8 := by
   unfold takeS
   rw [h3, ← mW_mI, xW_xorS hh]
  rw [ht2]
end Go.Proofs.YtejjhgdnmknejaaGreatDoor
