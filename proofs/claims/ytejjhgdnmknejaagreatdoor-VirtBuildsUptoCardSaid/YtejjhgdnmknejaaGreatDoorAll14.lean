import Derived.Test.YtejjhgdnmknejaaGreatDoorAll8
import Derived.Test.YtejjhgdnmknejaaGreatDoorAll13
set_option maxHeartbeats 64000000
namespace Go.Proofs.YtejjhgdnmknejaaGreatDoor
open Go Go.EW
set_option linter.unusedSimpArgs false
set_option linter.unusedVariables false
def ylj1 : UL | _ => [xF 0 5 0 2, xL 1 6 5, xM 2 7 1, xO 3 8 (.call 152 [.t 6, .t 7]), xM 4 4 8]
def ybj2 : UB | _ => .seq (reg0 [xW 0 2 124 0, xC 1 4 0] 2) (.seq (reg0 (hid ylj1) 5) .ret)
attribute [simp] ylj1 ybj2
def c_byHold : EB × List QOp × Nat := ((hid ybj2), [(.mov (.t 4))], 9)
theorem k_byHold : cfun Tryz.prog 88 = some c_byHold := by kernel_rfl
def ylj7 : UL | _ => [xM 6 11 23]
def ylj8 : UL | _ => xM 0 18 9 :: xM 1 19 10 :: xb 2 20 .add 18 19 :: xQ 3 21 (.cnv .u64 (.t 20)) :: xQ 4 22 (.bin .shr (.t 21) (.k (.int .u64 1))) :: xQ 5 23 (.cnv .i64 (.t 22)) :: hid ylj7
def ylj9 : UL | _ => [xO 6 30 (.clo (.t 24) [.t 28, .t 29]), xc 7 31 .lss 30 0]
def ylja : UL | _ => xM 0 24 2 :: xM 1 25 0 :: xM 2 26 11 :: xI 3 27 3 25 26 :: xD 4 28 3 27 :: xM 5 29 1 :: hid ylj9
def ybje : UB | _ => .seq (.seq (reg0 [xM 0 15 9, xM 1 16 10, xb 2 17 .lss 15 16] 3) (.cond (.t 17) .skip (.exit 0))) (.block 1 (.seq (reg0 (hid ylj8) 7) (.seq (reg0 (hid ylja) 8) (.cond (.t 31) (reg0 [xM 0 32 11, xc 1 33 .add 32 1, xM 2 9 33] 3) (reg0 [xM 0 34 11, xM 1 10 34] 2)))))
def yljf : UL | _ => [xG 12 47 39 true (.bin .eql (.t 46) (xK 0)), xR 13 48 39 47, xM 14 6 35, xM 15 7 48]
def yljg : UL | _ => yM 6 41 39 true 0 :: yM 7 42 39 true 9 :: xG 8 43 39 true (.isl 3 (.t 41) (.t 42)) :: xG 9 44 39 true (.lda 3 (.t 43)) :: yM 10 45 39 true 1 :: ⟨11, (some 46), (some (39, true)), (.clo (.t 40) [.t 44, .t 45]), []⟩ :: hid yljf
def yljh : UL | _ => xM 0 35 9 :: xM 1 36 9 :: xM 2 37 8 :: xb 3 38 .lss 36 37 :: xM 4 39 38 :: yM 5 40 39 true 2 :: hid yljg
def ybjk : UB | _ => .seq (reg0 [xC 0 6 0, xQ 1 7 (.mov (.k (.bool false)))] 2) (.seq (reg0 [xM 0 12 0, xE 1 13 12, xM 2 8 13] 3) (.seq (reg0 [xM 0 14 8, xC 1 9 0, xM 2 10 14] 3) (.seq (.block 0 (.loop (hid ybje))) (.seq (reg0 (hid yljh) 16) .ret))))
attribute [simp] ylj7 ylj8 ylj9 ylja ybje yljf yljg yljh ybjk
def c_BinH : EB × List QOp × Nat := ((hid ybjk), [(.mov (.t 6)), (.mov (.t 7))], 49)
theorem k_BinH : cfun Tryz.prog 87 = some c_BinH := by kernel_rfl
def yljl : UL | _ => [xW 0 3 49 0, xW 1 5 124 2, xQ 2 6 (.alloc 49 [xZ, xZ, xZ, xS, xS]), xQ 3 7 (.mov (.k .nilIface))]
def yljm : UL | _ => [xN 6 (.fz (.sto 5 (.t 8) (.t 15))), xM 7 9 16]
def yljn : UL | _ => xD 0 13 5 3 :: xO 1 14 (.call 86 [.t 13]) :: xM 2 12 14 :: xX 3 15 0 12 :: xX 4 16 1 12 :: xQ 5 8 (.alloc 49 [xZ, xZ, xZ, xS, xS]) :: hid yljm
def yljp : UL | _ => [xQ 0 19 (.build [xZ, xZ, xZ, xS, xS] []), xM 1 20 9, xN 2 (.fz (.sto 5 (.t 6) (.t 19))), xM 3 7 20]
def yljr : UL | _ => [xX 6 27 0 21, xX 7 28 1 21, xM 8 10 27, xM 9 11 28]
def yljs : UL | _ => xF 0 22 4 8 :: xL 1 23 22 :: xF 2 24 0 5 :: xL 3 25 24 :: xO 4 26 (.call 87 [.t 23, .t 25, (.k (.func (.func 88) #[] #[]))]) :: xM 5 21 26 :: hid yljr
def yljt : UL | _ => [xM 0 30 1, xO 1 31 (.call 89 [.t 30]), xQ 2 32 (.un .not (.t 31)), xM 3 29 32]
def ylju : UL | _ => [xQ 0 33 (.build [xZ, xZ, xZ, xS, xS] []), xQ 1 34 (.mki 132 (xK 33)), xN 2 (.fz (.sto 5 (.t 6) (.t 33))), xM 3 7 34]
def yljw : UL | _ => [xQ 0 39 (.build [xZ, xZ, xZ, xS, xS] []), xQ 1 40 (.mki 132 (xK 27)), xN 2 (.fz (.sto 5 (.t 6) (.t 39))), xM 3 7 40]
def yljx : UL | _ => [xD 0 42 3 5, xO 1 43 (.call 90 [.t 42]), xQ 2 44 (.un .not (.t 43)), xM 3 41 44]
def yljy : UL | _ => [xQ 0 45 (.build [xZ, xZ, xZ, xS, xS] []), xQ 1 46 (.mki 132 (xK 1)), xN 2 (.fz (.sto 5 (.t 6) (.t 45))), xM 3 7 46]
def ylk0 : UL | _ => [xQ 0 49 (.build [xZ, xZ, xZ, xS, xS] []), xQ 1 50 (.mki 132 (xK 9)), xN 2 (.fz (.sto 5 (.t 6) (.t 49))), xM 3 7 50]
def ylk1 : UL | _ => [xD 0 52 5 8, xO 1 53 (.call 91 [.t 52]), xc 2 54 .geq 53 8, xM 3 51 54]
def ylk2 : UL | _ => [xQ 0 55 (.build [xZ, xZ, xZ, xS, xS] []), xQ 1 56 (.mki 132 (xK 30)), xN 2 (.fz (.sto 5 (.t 6) (.t 55))), xM 3 7 56]
def ylk3 : UL | _ => [xb 6 64 .lss 61 63, xM 7 57 64]
def ylk4 : UL | _ => xM 0 58 1 :: xF 1 59 1 8 :: xQ 2 60 (.iad 2 1 (.t 59) (.t 58)) :: xL 3 61 60 :: xF 4 62 1 5 :: xL 5 63 62 :: hid ylk3
def ylk5 : UL | _ => [xQ 0 65 (.build [xZ, xZ, xZ, xS, xS] []), xQ 1 66 (.mki 132 (xK 20)), xN 2 (.fz (.sto 5 (.t 6) (.t 65))), xM 3 7 66]
def ybk8 : UB | _ => .seq (reg0 [xM 0 48 11, xM 1 47 48] 2) (.cond (.t 47) (.seq (reg0 (hid ylk0) 4) .ret) (.seq (reg0 (hid ylk1) 4) (.cond (.t 51) (.seq (reg0 (hid ylk2) 4) .ret) (.seq (reg0 (hid ylk4) 8) (.cond (.t 57) (.seq (reg0 (hid ylk5) 4) .ret) .skip)))))
def ybk9 : UB | _ => .seq (reg0 (hid yljx) 4) (.cond (.t 41) (.seq (reg0 (hid yljy) 4) .ret) (hid ybk8))
def ybka : UB | _ => .seq (reg0 [xF 0 36 1 5, xL 1 37 36, xc 2 38 .lss 37 10, xM 3 35 38] 4) (.cond (.t 35) (.seq (reg0 (hid yljw) 4) .ret) (hid ybk9))
def ybkb : UB | _ => .seq (reg0 (hid yljt) 4) (.cond (.t 29) (.seq (reg0 (hid ylju) 4) .ret) (hid ybka))
def ylkc : UL | _ => [xb 6 73 .sub 70 72, xF 7 74 1 8, xQ 8 75 (.iad 2 1 (.t 74) (.t 67)), xN 9 (.sto 1 (.t 75) (.t 73))]
def ylkd : UL | _ => xM 0 67 1 :: xF 1 68 1 8 :: xQ 2 69 (.iad 2 1 (.t 68) (.t 67)) :: xL 3 70 69 :: xF 4 71 1 5 :: xL 5 72 71 :: hid ylkc
def ylke : UL | _ => [xF 0 76 2 5, xL 1 77 76, xO 2 78 (.call 76 [.t 77]), xF 3 79 2 5, xN 4 (.fz (.sto 1 (.t 79) (.t 78)))]
def ylkf : UL | _ => [xF 6 86 4 8, xN 7 (.fz (.sto 1 (.t 86) (.t 85)))]
def ylkg : UL | _ => xF 0 80 4 8 :: xL 1 81 80 :: xM 2 82 10 :: xD 3 83 3 5 :: xQ 4 84 (.bsr 124 3 [xZ, xZ, xS] 1 [(0, .t 83)]) :: xO 5 85 (.call 92 [.t 81, .t 82, .t 84]) :: hid ylkf
def ylkh : UL | _ => [xD 0 87 5 8, xN 1 (.fz (.sto 5 (.t 6) (.t 87))), xQ 2 7 (.mov (.k .nilIface))]
def ybkj : UB | _ => .seq (.block 0 (hid ybkb)) (.seq (reg0 (hid ylkd) 10) (.seq (reg0 (hid ylke) 5) (.seq (reg0 (hid ylkg) 8) (.seq (reg0 (hid ylkh) 3) .ret))))
def ybkk : UB | _ => .seq (.seq (reg0 [xM 0 17 9, xQ 1 18 (.eqi true (.t 17))] 2) (.cond (.t 18) (.seq (reg0 (hid yljp) 4) .ret) .skip)) (.seq (reg0 (hid yljs) 10) (hid ybkj))
def ybkl : UB | _ => .seq (reg0 (hid yljl) 4) (.seq (reg0 (hid yljn) 8) (hid ybkk))
attribute [simp] yljl yljm yljn yljp yljr yljs yljt ylju yljw yljx yljy ylk0 ylk1 ylk2 ylk3 ylk4 ylk5 ybk8 ybk9 ybka ybkb ylkc ylkd ylke ylkf ylkg ylkh ybkj ybkk ybkl
def c_SKeep : EB × List QOp × Nat := ((hid ybkl), [(.lda 5 (.t 6)), (.mov (.t 7))], 88)
theorem k_SKeep : cfun Tryz.prog 42 = some c_SKeep := by kernel_rfl
def ylkm : UL | _ => [xW 0 3 49 0, xQ 1 6 (.alloc 49 [xZ, xZ, xZ, xS, xS]), xQ 2 7 (.mov (.k .nilIface))]
def ylkn : UL | _ => [xN 6 (.fz (.sto 5 (.t 8) (.t 15))), xM 7 9 16]
def ylko : UL | _ => xD 0 13 5 3 :: xO 1 14 (.call 86 [.t 13]) :: xM 2 12 14 :: xX 3 15 0 12 :: xX 4 16 1 12 :: xQ 5 8 (.alloc 49 [xZ, xZ, xZ, xS, xS]) :: hid ylkn
def ylkq : UL | _ => [xQ 0 19 (.build [xZ, xZ, xZ, xS, xS] []), xM 1 20 9, xN 2 (.fz (.sto 5 (.t 6) (.t 19))), xM 3 7 20]
def ylks : UL | _ => [xX 6 27 1 21, xM 7 10 26, xM 8 11 27]
def ylkt : UL | _ => xF 0 22 4 8 :: xL 1 23 22 :: xM 2 24 1 :: xO 3 25 (.call 87 [.t 23, .t 24, (.k (.func (.func 88) #[] #[]))]) :: xM 4 21 25 :: xX 5 26 0 21 :: hid ylks
def ylkv : UL | _ => [xQ 0 31 (.build [xZ, xZ, xZ, xS, xS] []), xQ 1 32 (.mki 132 (xK 8)), xN 2 (.fz (.sto 5 (.t 6) (.t 31))), xM 3 7 32]
def ylkw : UL | _ => [xM 12 33 45]
def ylkx : UL | _ => yM 6 40 36 false 10 :: xG 7 41 36 false (.isl 3 (.t 39) (.t 40)) :: yF 8 42 36 false 1 41 :: yL 9 43 36 false 42 :: xG 10 44 36 false (.bin .gtr (.t 37) (.t 43)) :: xP 11 45 36 44 :: hid ylkw
def ylky : UL | _ => xM 0 34 2 :: xc 1 35 .lss 34 0 :: xM 2 36 35 :: yM 3 37 36 false 2 :: yF 4 38 36 false 4 8 :: yL 5 39 36 false 38 :: hid ylkx
def ylkz : UL | _ => [xQ 0 46 (.build [xZ, xZ, xZ, xS, xS] []), xQ 1 47 (.mki 132 (xK 20)), xN 2 (.fz (.sto 5 (.t 6) (.t 46))), xM 3 7 47]
def yll2 : UL | _ => [xQ 6 54 (.iad 2 1 (.t 53) (xK 0)), xN 7 (.sto 1 (.t 54) (.t 52))]
def yll3 : UL | _ => xF 0 48 1 8 :: xQ 1 49 (.iad 2 1 (.t 48) (xK 0)) :: xL 2 50 49 :: xM 3 51 2 :: xb 4 52 .add 50 51 :: xF 5 53 1 8 :: hid yll2
def yll4 : UL | _ => [xF 12 67 1 8, xQ 13 68 (.iad 2 1 (.t 67) (xK 1)), xN 14 (.sto 1 (.t 68) (.t 66))]
def yll5 : UL | _ => xI 6 61 3 59 60 :: xF 7 62 1 61 :: xL 8 63 62 :: xM 9 64 2 :: xb 10 65 .sub 63 64 :: xb 11 66 .add 57 65 :: hid yll4
def yll6 : UL | _ => xF 0 55 1 8 :: xQ 1 56 (.iad 2 1 (.t 55) (xK 1)) :: xL 2 57 56 :: xF 3 58 4 8 :: xL 4 59 58 :: xM 5 60 10 :: hid yll5
def yll7 : UL | _ => [xF 6 75 4 8, xN 7 (.fz (.sto 1 (.t 75) (.t 74)))]
def yll8 : UL | _ => xF 0 69 4 8 :: xL 1 70 69 :: xM 2 71 10 :: xM 3 72 10 :: xc 4 73 .add 72 1 :: xO 5 74 (.call 167 [.t 70, .t 71, .t 73]) :: hid yll7
def yll9 : UL | _ => [xD 0 76 5 8, xN 1 (.fz (.sto 5 (.t 6) (.t 76))), xQ 2 7 (.mov (.k .nilIface))]
def ybla : UB | _ => .seq (reg0 (hid yll6) 15) (.seq (reg0 (hid yll8) 8) (.seq (reg0 (hid yll9) 3) .ret))
def yblb : UB | _ => .seq (.block 0 (.seq (reg0 [xM 0 29 11, xQ 1 30 (.un .not (.t 29)), xM 2 28 30] 3) (.cond (.t 28) (.seq (reg0 (hid ylkv) 4) .ret) (.seq (reg0 (hid ylky) 13) (.cond (.t 33) (.seq (reg0 (hid ylkz) 4) .ret) .skip))))) (.seq (reg0 (hid yll3) 8) (hid ybla))
def yblc : UB | _ => .seq (.seq (reg0 [xM 0 17 9, xQ 1 18 (.eqi true (.t 17))] 2) (.cond (.t 18) (.seq (reg0 (hid ylkq) 4) .ret) .skip)) (.seq (reg0 (hid ylkt) 9) (hid yblb))
def ybld : UB | _ => .seq (reg0 (hid ylkm) 3) (.seq (reg0 (hid ylko) 8) (hid yblc))
attribute [simp] ylkm ylkn ylko ylkq ylks ylkt ylkv ylkw ylkx ylky ylkz yll2 yll3 yll4 yll5 yll6 yll7 yll8 yll9 ybla yblb yblc ybld
def c_SFree : EB × List QOp × Nat := ((hid ybld), [(.lda 5 (.t 6)), (.mov (.t 7))], 77)
theorem k_SFree : cfun Tryz.prog 112 = some c_SFree := by kernel_rfl
theorem cloneI_fz (l : List Int) (hl : l.length ≤ 100000000) : ECalls Tryz.prog 76 [IL l] [] fun y H' => H' = [] ∧ y = IL l := by
 have h := cloneI_ok l hl
 rw [show l.length = (intv l).length by simp] at h
 exact ecalls_frz h
theorem byHold_ok (p : Hol) (x : Int) : ECalls Tryz.prog 88 [.v (.agg (holC p)), I .i64 x] [] fun y H' => H' = [] ∧ y = I .i64 (cmpI p.id x) := by
 refine ecalls k_byHold ?_
 simp [c_byHold, I, holC]
 refine call0 (CmpI_ok p.id x) (by simp [Ptr, I, EV.lit]) ?_
 rintro y H' ⟨rfl, rfl⟩
 refine ⟨.inl (by simp [Ptr, I, EV.lit]), le_ok rfl, ?_⟩
 simp [Ptr, I, EV.lit]
 exact fin0
theorem byHold_body : bodyOK Tryz.prog 88 = true := by kernel_rfl
theorem BinH_ok (l : List Hol) (x : Int) (hl : ∀ p ∈ l, p.ok) (hn : l.length ≤ 100000000) (hs : (l.map (·.id)).Pairwise (· < ·)) :
  ECalls Tryz.prog 87 [HL l, I .i64 x, .v (.c (.clo 88 []))] [] fun y H' => H' = [] ∧ y = .tup [.c (.fz (.lit (.int .i64 (posI (l.map (·.id)) x)))), .c (.fz (.lit (.bool (fndI (l.map (·.id)) x))))] := by
 obtain ⟨ids, hids⟩ : ∃ ids, l.map (·.id) = ids := ⟨_, rfl⟩
 rw [hids] at hs ⊢
 have idl : ids.length = l.length := by rw [← hids]; simp
 have hget : ∀ (k : Nat) (p : Hol), l[k]? = some p → ids[k]? = some p.id := fun k p h => by rw [← hids, List.getElem?_map, h]; rfl
 refine ecalls k_BinH ?_
 simp [c_BinH, I, HL]
 refine eloop (α := Nat × Nat) (fun a => a.1 ≤ a.2 ∧ a.2 ≤ l.length ∧ (∀ k y, k < a.1 → ids[k]? = some y → y < x) ∧ ∀ k y, a.2 ≤ k → ids[k]? = some y → x ≤ y) (fun a => a.2 - a.1)
  (fun a => [HL l, I .i64 x, .v (.c (.clo 88 [])), .any, .any, .any, .any, .any, I .i64 l.length, I .i64 a.1, I .i64 a.2, .any, .any, .any, .any, .any, .any, .any, .any, .any, .any, .any, .any, .any, .any, .any, .any, .any, .any, .any, .any, .any, .any, .any, .any, .any, .any, .any, .any, .any, .any, .any, .any, .any, .any, .any, .any, .any, .any]) (fun _ => []) (0, l.length) []
  ⟨by simp, Nat.le_refl _, by intro k y h; simp at h, by
   intro k y h hk
   have := lt_len hk
   simp at h; omega⟩ (by simp [I, HL]) (by simp) (by simp) (by simp) (by simp) ?_
 rintro ⟨i, j⟩ ⟨h1, h2, h3, h4⟩
 dsimp only at h1 h2 h3 h4
 simp [I, HL]
 refine alt (fun hlt => ?_) (fun hlt => ?_)
 ·have hij : i < j := by omega
  obtain ⟨h, hh⟩ : ∃ h, (i + j) / 2 = h := ⟨_, rfl⟩
  have hl1 : i ≤ h := by omega
  have hl2 : h < j := by omega
  have hln : h < l.length := by omega
  obtain ⟨p, hc⟩ : ∃ p, l[h]? = some p := ⟨l[h], by simp [hln]⟩
  have hpo := hl p (List.mgE hc)
  have hcb := holv_get hc
  have hge : (holv l)[h]'(by simp [hln]) = holF p := gE (hcb)
  have hpt := holC_take p
  have hpl : (holC p).length = 3 := rfl
  have hfl : (holF p).length = 3 := rfl
  have w0 : IntKind.i64.wrap ((i : Int) + (j : Int)) = ((i + j : Nat) : Int) := by rw [wrap_i64 (by omega) (by omega)]; omega
  have w1 : IntKind.u64.wrap ((i + j : Nat) : Int) = ((i + j : Nat) : Int) := wrap_u64 (by omega) (by omega)
  have w2 : ishr .u64 ((i + j : Nat) : Int) 1 = (h : Int) := by
   have e := ishr_nat .u64 (i + j) 1 (by decide)
   rw [show ((1 : Nat) : Int) = 1 from rfl] at e
   rw [e, ← hh]
  have w3 : IntKind.i64.wrap (h : Int) = (h : Int) := wrap_i64 (by omega) (by omega)
  have w4 : IntKind.i64.wrap ((h : Int) + 1) = ((h + 1 : Nat) : Int) := wrap_i64 (by omega) (by omega)
  simp [w0, w1, w2, w3, hln, hge, holF_fz, hpt, hpl, hfl, -Int.natCast_add]
  refine ⟨byHold_body, ?_⟩
  refine call0 (byHold_ok p x) (by simp [I]) ?_
  rintro y H' ⟨rfl, rfl⟩
  refine ⟨.inl (by simp [-List.flatMap_eq_nil_iff, I]), le_ok rfl, ?_⟩
  simp [I]
  have hcm : cmpI p.id x < 0 ↔ p.id < x := by unfold cmpI; split <;> (try split) <;> omega
  refine alt (fun hneg => ?_) (fun hneg => ?_)
  ·have hpx := hcm.1 hneg
   simp [w4, -Int.natCast_add]
   refine round (h + 1, j) [] ⟨by dsimp only; omega, h2, ?_, h4⟩ (by dsimp only; omega) (by simp) (by simp) (by simp) (by simp) (by simp)
   intro k y hk hy
   dsimp only at hk
   rcases Nat.lt_or_ge k h with hkh | hkh
   ·have := pw_get hs hkh hy (hget h p hc)
    omega
   ·obtain rfl : k = h := by omega
    rw [hget k p hc] at hy
    obtain rfl := Option.some.inj hy
    exact hpx
  ·have hpx : x ≤ p.id := by
    rcases Int.lt_or_le p.id x with q | q
    ·exact absurd (hcm.2 q) hneg
    ·exact q
   simp [-Int.natCast_add]
   refine round (i, h) [] ⟨hl1, by dsimp only; omega, h3, ?_⟩ (by dsimp only; omega) (by simp) (by simp) (by simp) (by simp) (by simp)
   intro k y hk hy
   dsimp only at hk
   rcases Nat.lt_or_ge h k with hkh | hkh
   ·have := pw_get hs hkh (hget h p hc) hy
    omega
   ·obtain rfl : k = h := by omega
    rw [hget k p hc] at hy
    obtain rfl := Option.some.inj hy
    exact hpx
 ·obtain rfl : i = j := by omega
  have hpos : posI ids x = i := posI_eq (by omega) h3 fun y hy => h4 i y (Nat.le_refl _) hy
  rw [show fndI ids x = decide (ids[i]? = some x) by unfold fndI; rw [hpos], hpos]
  simp
  refine alt (fun hi => ?_) (fun hi => ?_)
  ·have hln : i < l.length := by omega
   obtain ⟨p, hc⟩ : ∃ p, l[i]? = some p := ⟨l[i], by simp [hln]⟩
   have hpo := hl p (List.mgE hc)
   have hcb := holv_get hc
   have hge : (holv l)[i]'(by simp [hln]) = holF p := gE (hcb)
   have hpt := holC_take p
   have hpl : (holC p).length = 3 := rfl
   have hfl : (holF p).length = 3 := rfl
   simp [hln, hge, holF_fz, hpt, hpl, hfl]
   refine ⟨byHold_body, ?_⟩
   refine call0 (byHold_ok p x) (by simp [I]) ?_
   rintro y H' ⟨rfl, rfl⟩
   refine ⟨.inl (by simp [-List.flatMap_eq_nil_iff, I]), le_ok rfl, ?_⟩
   simp [I]
   have hcm : cmpI p.id x = 0 ↔ ids[i]? = some x := by
    rw [hget i p hc]
    unfold cmpI
    simp only [Option.some.injEq]
    split <;> (try split) <;> omega
   rw [show decide (cmpI p.id x = 0) = decide (ids[i]? = some x) from decide_eq_decide.2 hcm]
   exact fin0
  ·have hnone : ids[i]? = none := List.getElem?_eq_none (by omega)
   simp [hi, hnone]
   exact fin0
theorem SKeep_ok (s : Sta) (who : Int) (h : Hol) (hs : s.ok) (hw : i64 who) (hh : h.ok) : ECalls Tryz.prog 42 [SV s, I .i64 who, .v (.agg (holC h))] [] fun y H' => H' = [] ∧ y = SE (keeS s who h) := by
 obtain ⟨ok1, ok2, ok3, ok4, ok5, ok6, ok7⟩ := id hs
 obtain ⟨⟨p1, p1'⟩, ⟨p2, p2'⟩, p3, p4⟩ := id hh
 refine ecalls k_SKeep ?_
 simp [c_SKeep, SV, staC, hc0', I, -errV_0]
 by_cases h0 : mayS s = true ∧ s.num ≠ 1099511627776
 rotate_left
 ·have hx : nxt s = (zSta, 1) := by simp only [nxt, if_neg h0]
  have ha : keeS s who h = (zSta, 1) := by simp [keeS, hx]
  rw [ha]
  refine call0 (next_ok s hs) (by simp [SV, staC]) ?_
  rintro y H' ⟨rfl, rfl⟩
  refine ⟨.inl (by simp), le_ok rfl, ?_⟩
  rw [hx]
  simp [SE, staC, zSta]
  refine finW _ (weak_nlB (o := 32) (k := 3) 36 rfl rfl) (finW _ (weak_nlB (o := 32) (k := 4) 3 rfl rfl) ?_)
  exact fin0
 have hx : nxt s = (⟨s.num + 1, s.h0, s.h1, s.pays, s.holds⟩, 0) := by simp only [nxt, if_pos h0]
 obtain ⟨hr, hpl', hhl, htot⟩ := mayS_t h0.1
 have hpw := holL_pw hhl
 have tpv : List.take s.holds.length (holv s.holds) = holv s.holds := List.tkL (by simp)
 have hadd : keeS s who h = if ¬ (who = 0 ∨ who = 1) then (zSta, 33) else if h.am < 10 then (zSta, 27) else if mayH h = false then (zSta, 1)
   else if fndI (s.holds.map (·.id)) h.id = true then (zSta, 9) else if 8 ≤ s.pays.length + s.holds.length then (zSta, 30) else if sideS s who < h.am then (zSta, 20)
   else (⟨s.num + 1, if who = 0 then s.h0 - h.am else s.h0, if who = 0 then s.h1 else s.h1 - h.am, s.pays, insA Hol.id s.holds h⟩, 0) := by
  simp only [keeS, hx]
  rw [if_neg (by simp)]
 refine call0 (nextH_ok s hs h0) (by simp [SV, staC]) ?_
 rintro y H' ⟨rfl, rfl⟩
 refine ⟨.inl (by simp), le_ok rfl, ?_⟩
 simp [-errV_0]
 refine call0 (BinH_ok s.holds h.id ok5 ok7 hpw) (by simp [HL, I, tpv]) ?_
 rintro y H' ⟨rfl, rfl⟩
 refine ⟨.inr ⟨rfl, by simp⟩, le_ok rfl, ?_⟩
 obtain ⟨pos, hpos⟩ : ∃ pos, posI (s.holds.map (·.id)) h.id = pos := ⟨_, rfl⟩
 have hple : pos ≤ s.holds.length := by have := posI_le (s.holds.map (·.id)) h.id; rw [hpos] at this; simpa using this
 obtain ⟨fnd, hfnd⟩ : ∃ fnd, fndI (s.holds.map (·.id)) h.id = fnd := ⟨_, rfl⟩
 rw [hpos, hfnd]
 simp [-errV_0]
 refine call0 (side_ok who) (by simp [I]) ?_
 rintro y H' ⟨rfl, rfl⟩
 refine ⟨.inl (by simp), le_ok rfl, ?_⟩
 cases hb : decide (who = 0 ∨ who = 1)
 ·have hb' := of_decide_eq_false hb
  rw [hadd, if_pos hb']
  simp [EV.lit, SE, staC, zSta]
  refine finW _ (weak_nlB (o := 32) (k := 3) 36 rfl rfl) (finW _ (weak_nlB (o := 32) (k := 4) 3 rfl rfl) ?_)
  exact fin0
 have hb' := of_decide_eq_true hb
 rw [hadd, if_neg (by simp [hb']), hfnd]
 simp [EV.lit, -errV_0]
 refine alt (fun c1 => ?_) (fun c1 => ?_)
 ·rw [if_pos c1]
  simp [EV.lit, SE, staC, zSta]
  refine finW _ (weak_nlB (o := 32) (k := 3) 36 rfl rfl) (finW _ (weak_nlB (o := 32) (k := 4) 3 rfl rfl) ?_)
  exact fin0
 rw [if_neg c1]
 simp [-errV_0]
 refine call0 (Hmay_ok h p4) (by simp [hc0']) ?_
 rintro y H' ⟨rfl, rfl⟩
 refine ⟨.inl (by simp [-List.flatMap_eq_nil_iff]), le_ok rfl, ?_⟩
 cases hm : mayH h
 ·rw [if_pos rfl]
  simp [EV.lit, SE, staC, zSta]
  refine finW _ (weak_nlB (o := 32) (k := 3) 36 rfl rfl) (finW _ (weak_nlB (o := 32) (k := 4) 3 rfl rfl) ?_)
  exact fin0
 rw [if_neg (by simp)]
 cases fnd
 rotate_left
 ·rw [if_pos rfl]
  simp [EV.lit, SE, staC, zSta]
  refine finW _ (weak_nlB (o := 32) (k := 3) 36 rfl rfl) (finW _ (weak_nlB (o := 32) (k := 4) 3 rfl rfl) ?_)
  exact fin0
 rw [if_neg (by simp)]
 simp [EV.lit, -errV_0]
 refine call0 (Sslots_ok ⟨s.num + 1, s.h0, s.h1, s.pays, s.holds⟩ (nxt_ok hs h0.1)) (by simp [SV, staC, tpv]) ?_
 rintro y H' ⟨rfl, rfl⟩
 refine ⟨.inr ⟨rfl, by simp⟩, le_ok rfl, ?_⟩
 simp [I, -errV_0]
 refine alt (fun c2 => ?_) (fun c2 => ?_)
 ·rw [if_pos (by omega)]
  simp [EV.lit, SE, staC, zSta]
  refine finW _ (weak_nlB (o := 32) (k := 3) 36 rfl rfl) (finW _ (weak_nlB (o := 32) (k := 4) 3 rfl rfl) ?_)
  exact fin0
 rw [if_neg (by omega)]
 have hins := InsH.ins_ok (holv s.holds) (holF h) pos (by simpa using hple) (by simp; omega)
 simp [holF] at hins
 have hpv : holv (insA Hol.id s.holds h) = (holv s.holds).take pos ++ holF h :: (holv s.holds).drop pos := by rw [holv_ins, hpos]
 have hpl1 : (insA Hol.id s.holds h).length = s.holds.length + 1 := len_ins Hol.id s.holds h
 have hpt2 : List.take (s.holds.length + 1) (holv (insA Hol.id s.holds h)) = holv (insA Hol.id s.holds h) := List.tkL (by simp [hpl1])
 rcases hb' with rfl | rfl
 ·simp [EV.lit, -errV_0]
  refine alt (fun c3 => ?_) (fun c3 => ?_)
  ·rw [if_pos (by simpa [sideS] using c3)]
   simp [EV.lit, SE, staC, zSta]
   refine finW _ (weak_nlB (o := 32) (k := 3) 36 rfl rfl) (finW _ (weak_nlB (o := 32) (k := 4) 3 rfl rfl) ?_)
   exact fin0
  rw [if_neg (by simpa [sideS] using c3)]
  have w1 : IntKind.i64.wrap (s.h0 - h.am) = s.h0 - h.am := wrap_i64 (by omega) (by omega)
  simp [EV.lit, w1, -errV_0]
  refine call0 (cloneI_fz h.keys p4) (by simp [IL]) ?_
  rintro y H' ⟨rfl, rfl⟩
  refine ⟨.inl (by simp), le_ok rfl, ?_⟩
  simp [IL, -errV_0]
  refine callH [80, 1104] hins (by simp) (by simp) (by simp) (by simp) (by simp) ?_
  rintro y H' ⟨rfl, rfl⟩
  refine ⟨.inl (by simp), by simp, ?_⟩
  simp [-errV_0]
  refine finW _ (weak_frz (o := 1120) (ty := 124) (es := 3) (xs := holv (insA Hol.id s.holds h)) (by rw [hpv]; rfl)) ?_
  exact fin [] (by decide) rfl rfl rfl ⟨rfl, by simp [SE, staC, hpl1, hpt2, errV, -errV_0]⟩
 ·simp [EV.lit, -errV_0]
  refine alt (fun c3 => ?_) (fun c3 => ?_)
  ·rw [if_pos (by simpa [sideS] using c3)]
   simp [EV.lit, SE, staC, zSta]
   refine finW _ (weak_nlB (o := 32) (k := 3) 36 rfl rfl) (finW _ (weak_nlB (o := 32) (k := 4) 3 rfl rfl) ?_)
   exact fin0
  rw [if_neg (by simpa [sideS] using c3)]
  have w1 : IntKind.i64.wrap (s.h1 - h.am) = s.h1 - h.am := wrap_i64 (by omega) (by omega)
  simp [EV.lit, w1, -errV_0]
  refine call0 (cloneI_fz h.keys p4) (by simp [IL]) ?_
  rintro y H' ⟨rfl, rfl⟩
  refine ⟨.inl (by simp), le_ok rfl, ?_⟩
  simp [IL, -errV_0]
  refine callH [80, 1104] hins (by simp) (by simp) (by simp) (by simp) (by simp) ?_
  rintro y H' ⟨rfl, rfl⟩
  refine ⟨.inl (by simp), by simp, ?_⟩
  simp [-errV_0]
  refine finW _ (weak_frz (o := 1120) (ty := 124) (es := 3) (xs := holv (insA Hol.id s.holds h)) (by rw [hpv]; rfl)) ?_
  exact fin [] (by decide) rfl rfl rfl ⟨rfl, by simp [SE, staC, hpl1, hpt2, errV, -errV_0]⟩
theorem SFree_ok (s : Sta) (x a : Int) (hs : s.ok) (hx64 : i64 x) (ha64 : i64 a) : ECalls Tryz.prog 112 [SV s, I .i64 x, I .i64 a] [] fun y H' => H' = [] ∧ y = SE (freS s x a) := by
 obtain ⟨ok1, ok2, ok3, ok4, ok5, ok6, ok7⟩ := id hs
 refine ecalls k_SFree ?_
 simp [c_SFree, SV, staC, I, -errV_0]
 by_cases h0 : mayS s = true ∧ s.num ≠ 1099511627776
 rotate_left
 ·have hx : nxt s = (zSta, 1) := by simp only [nxt, if_neg h0]
  have ha : freS s x a = (zSta, 1) := by simp [freS, hx]
  rw [ha]
  refine call0 (next_ok s hs) (by simp [SV, staC]) ?_
  rintro y H' ⟨rfl, rfl⟩
  refine ⟨.inl (by simp), le_ok rfl, ?_⟩
  rw [hx]
  simp [SE, staC, zSta]
  refine finW _ (weak_nlB (o := 16) (k := 3) 36 rfl rfl) (finW _ (weak_nlB (o := 16) (k := 4) 3 rfl rfl) ?_)
  exact fin0
 have hx : nxt s = (⟨s.num + 1, s.h0, s.h1, s.pays, s.holds⟩, 0) := by simp only [nxt, if_pos h0]
 obtain ⟨hr, hpl', hhl, htot⟩ := mayS_t h0.1
 have hpw := holL_pw hhl
 have tpv : List.take s.holds.length (holv s.holds) = holv s.holds := List.tkL (by simp)
 refine call0 (nextH_ok s hs h0) (by simp [SV, staC]) ?_
 rintro y H' ⟨rfl, rfl⟩
 refine ⟨.inl (by simp), le_ok rfl, ?_⟩
 simp [-errV_0]
 refine call0 (BinH_ok s.holds x ok5 ok7 hpw) (by simp [HL, I, tpv]) ?_
 rintro y H' ⟨rfl, rfl⟩
 refine ⟨.inr ⟨rfl, by simp⟩, le_ok rfl, ?_⟩
 simp [-errV_0]
 cases hf : fndI (s.holds.map (·.id)) x
 ·have hne : (s.holds.map (·.id))[posI (s.holds.map (·.id)) x]? ≠ some x := of_decide_eq_false hf
  have ha : freS s x a = (zSta, 8) := by
   simp only [freS, hx]
   rw [if_neg (by simp)]
   split
   ·rfl
   ·rename_i h hc
    rw [List.getElem?_map, hc] at hne
    rw [if_pos (by simpa using hne)]
  rw [ha]
  simp [SE, staC, zSta]
  refine finW _ (weak_nlB (o := 16) (k := 3) 36 rfl rfl) (finW _ (weak_nlB (o := 16) (k := 4) 3 rfl rfl) ?_)
  exact fin0
 obtain ⟨h, hc, hid⟩ := fnd_get (f := Hol.id) hf
 have hfr : freS s x a = if a < 0 ∨ h.am < a then (zSta, 20) else (⟨s.num + 1, s.h0 + a, s.h1 + (h.am - a), s.pays, delA Hol.id s.holds x⟩, 0) := by
  simp only [freS, hx, hc]
  rw [if_neg (by simp), if_neg (by simp [hid])]
 have hpv0 := holv_del s.holds x
 have hpl1 : (delA Hol.id s.holds x).length = s.holds.length - 1 := len_del hc
 obtain ⟨pos, hpos⟩ : ∃ pos, posI (s.holds.map (·.id)) x = pos := ⟨_, rfl⟩
 rw [hpos] at hc hpv0 ⊢
 have hlt : pos < s.holds.length := lt_len hc
 have hge : (holv s.holds)[pos]'(by simp [hlt]) = holF h := gE (holv_get hc)
 have hpt2 : List.take (s.holds.length - 1) (holv (delA Hol.id s.holds x)) = holv (delA Hol.id s.holds x) := List.tkL (by simp [hpl1])
 have hdel := InsH.del_ok (holv s.holds) pos (by simpa using hlt)
 simp at hdel
 have w1 : IntKind.i64.wrap ((pos : Int) + 1) = (pos : Int) + 1 := wrap_i64 (by omega) (by omega)
 have hle := holL_sum hhl h (List.mgE hc)
 have hma := mayH_am (holL_mem hhl h (List.mgE hc))
 have hnn := sumP_nn hpl'
 have hto : total s = s.h0 + s.h1 + sumP s.pays + sumH s.holds := rfl
 rw [hfr]
 by_cases c1 : a < 0
 ·rw [if_pos (.inl c1)]
  simp [c1, show ¬ 0 ≤ a by omega, -errV_0]
  refine finW _ (weak_nlB (o := 16) (k := 3) 36 rfl rfl) (finW _ (weak_nlB (o := 16) (k := 4) 3 rfl rfl) ?_)
  exact fin0
 by_cases c2 : h.am < a
 ·rw [if_pos (.inr c2)]
  simp [c1, show 0 ≤ a by omega, c2, hlt, hge, holF, -errV_0]
  refine finW _ (weak_nlB (o := 16) (k := 3) 36 rfl rfl) (finW _ (weak_nlB (o := 16) (k := 4) 3 rfl rfl) ?_)
  exact fin0
 rw [if_neg (by omega)]
 have w2 : IntKind.i64.wrap (s.h0 + a) = s.h0 + a := wrap_i64 (by omega) (by omega)
 have w3 : IntKind.i64.wrap (h.am - a) = h.am - a := wrap_i64 (by omega) (by omega)
 have w4 : IntKind.i64.wrap (s.h1 + (h.am - a)) = s.h1 + (h.am - a) := wrap_i64 (by omega) (by omega)
 simp [c1, c2, show 0 ≤ a by omega, hlt, hge, holF, w1, w2, w3, w4, -errV_0]
 refine callH [64] hdel (by simp) (by simp) (by simp) (by simp) (by simp) ?_
 rintro y H' ⟨rfl, rfl⟩
 refine ⟨.inl (by simp), by simp, ?_⟩
 simp [-errV_0]
 refine finW _ (weak_frz (o := 1056) (ty := 124) (es := 3) (xs := holv (delA Hol.id s.holds x)) (by rw [hpv0]; rfl)) ?_
 exact fin [] (by decide) rfl rfl rfl ⟨rfl, by simp [SE, staC, hpl1, hpt2, errV, -errV_0]⟩
def ylle : UL | _ => [xW 0 4 44 0, xW 1 6 49 2, xW 2 7 49 3, xQ 3 8 (.alloc 49 [xZ, xZ, xZ, xS, xS]), xQ 4 9 (.alloc 49 [xZ, xZ, xZ, xS, xS]), xQ 5 10 (.mov (.k .nilIface))]
def yllh : UL | _ => [xQ 0 21 (.build [xZ, xZ, xZ, xS, xS] []), xQ 1 22 (.build [xZ, xZ, xZ, xS, xS] []), xM 2 23 11, xN 3 (.fz (.sto 5 (.t 8) (.t 21))), xN 4 (.fz (.sto 5 (.t 9) (.t 22))), xM 5 10 23]
def yllj : UL | _ => [xM 6 13 28]
def yllk : UL | _ => xD 0 25 81 4 :: xO 1 26 (.call 41 [.t 25]) :: xM 2 24 26 :: xX 3 27 0 24 :: xX 4 28 1 24 :: xM 5 12 27 :: hid yllj
def ylll : UL | _ => [⟨5, (some 35), none, (.call 42 [.t 30, .t 31, .t 34]), [9]⟩, xM 6 29 35, xX 7 36 0 29, xX 8 37 1 29, ⟨10, none, none, (.fz (.sto 5 (.t 14) (.t 36))), [8]⟩, xM 11 15 37]
def yllm : UL | _ => xD 0 30 5 6 :: xM 1 31 12 :: xD 2 32 81 4 :: xM 3 33 1 :: xQ 9 14 (.alloc 49 [xZ, xZ, xZ, xS, xS]) :: ⟨4, (some 34), none, (.call 43 [.t 32, .t 33]), [0, 1, 9]⟩ :: hid ylll
def yllo : UL | _ => [xQ 0 40 (.build [xZ, xZ, xZ, xS, xS] []), xQ 1 41 (.build [xZ, xZ, xZ, xS, xS] []), xM 2 42 15, xN 3 (.fz (.sto 5 (.t 8) (.t 40))), xN 4 (.fz (.sto 5 (.t 9) (.t 41))), xM 5 10 42]
def yllq : UL | _ => [⟨5, (some 49), none, (.call 42 [.t 44, .t 45, .t 48]), [9]⟩, xM 6 43 49, xX 7 50 0 43, xX 8 51 1 43, ⟨10, none, none, (.fz (.sto 5 (.t 16) (.t 50))), [8]⟩, xM 11 15 51]
def yllr : UL | _ => xD 0 44 5 7 :: xM 1 45 13 :: xD 2 46 81 4 :: xM 3 47 1 :: xQ 9 16 (.alloc 49 [xZ, xZ, xZ, xS, xS]) :: ⟨4, (some 48), none, (.call 43 [.t 46, .t 47]), [0, 1, 9]⟩ :: hid yllq
def yllt : UL | _ => [xQ 0 54 (.build [xZ, xZ, xZ, xS, xS] []), xQ 1 55 (.build [xZ, xZ, xZ, xS, xS] []), xM 2 56 15, xN 3 (.fz (.sto 5 (.t 8) (.t 54))), xN 4 (.fz (.sto 5 (.t 9) (.t 55))), xM 5 10 56]
def yllv : UL | _ => [xD 0 57 5 14, xD 1 58 5 16, ⟨2, none, none, (.fz (.sto 5 (.t 8) (.t 57))), [1]⟩, xN 3 (.fz (.sto 5 (.t 9) (.t 58))), xQ 4 10 (.mov (.k .nilIface))]
def yblw : UB | _ => .seq (reg1 (hid yllr) 12) (.seq (.seq (reg0 [xM 0 52 15, xQ 1 53 (.eqi true (.t 52))] 2) (.cond (.t 53) (.seq (reg0 (hid yllt) 6) .ret) .skip)) (.seq (reg1 (hid yllv) 5) .ret))
def yblx : UB | _ => .seq (reg1 (hid yllm) 12) (.seq (.seq (reg0 [xM 0 38 15, xQ 1 39 (.eqi true (.t 38))] 2) (.cond (.t 39) (.seq (reg0 (hid yllo) 6) .ret) .skip)) (hid yblw))
def ybly : UB | _ => .seq (.seq (reg0 [xD 0 17 81 4, xO 1 18 (.call 15 [.t 17]), xM 2 11 18] 3) (.seq (reg0 [xM 0 19 11, xQ 1 20 (.eqi true (.t 19))] 2) (.cond (.t 20) (.seq (reg0 (hid yllh) 6) .ret) .skip))) (.seq (reg0 (hid yllk) 7) (hid yblx))
def yblz : UB | _ => .seq (reg0 (hid ylle) 6) (hid ybly)
attribute [simp] ylle yllh yllj yllk ylll yllm yllo yllq yllr yllt yllv yblw yblx ybly yblz
def c_VOpen : EB × List QOp × Nat := ((hid yblz), [(.lda 5 (.t 8)), (.lda 5 (.t 9)), (.mov (.t 10))], 59)
theorem k_VOpen : cfun Tryz.prog 10 = some c_VOpen := by kernel_rfl
theorem swS_i64 {l : List Int} {j : Nat} (h : ∀ x ∈ l, i64 x) : ∀ x ∈ swS l j, i64 x := by
 have hz : i64 0 := by simp [i64]
 have hd : ∀ k : Nat, i64 ((l[k]?).getD 0) := by
  intro k
  cases hk : l[k]? with
  | none => exact hz
  | some y => exact h y (List.mgE hk)
 intro x hx
 unfold swS at hx
 rcases List.mem_or_eq_of_mem_set hx with hx | rfl
 ·rcases List.mem_or_eq_of_mem_set hx with hx | rfl
  ·exact h x hx
  ·exact hd _
 ·exact hd _
theorem sinkS_i64 : ∀ (j : Nat) {l : List Int}, (∀ x ∈ l, i64 x) → ∀ x ∈ sinkS j l, i64 x
 | 0, l, h => h
 | j + 1, l, h => by
  unfold sinkS
  split
  ·exact sinkS_i64 j (swS_i64 h)
  ·exact h
theorem srt_i64 {l : List Int} (h : ∀ x ∈ l, i64 x) : ∀ x ∈ srt l, i64 x := sinkS_i64 2 (sinkS_i64 1 h)
theorem holV_ok {r : Rte} {id' : Int} (hr : r.ok) (hi : i64 id') : (holV r id').ok := by
 obtain ⟨_, _, ha, hb, hc, hm, _⟩ := hr
 refine ⟨hi, hm, ?_, ?_⟩
 ·refine srt_i64 (l := [r.a, r.b, r.c]) ?_
  intro x hx
  simp only [List.mem_cons, List.mem_nil_iff, or_false] at hx
  rcases hx with rfl | rfl | rfl
  ·exact ha
  ·exact hb
  ·exact hc
 ·show (srt [r.a, r.b, r.c]).length ≤ _
  rw [srt_len]
  simp
theorem sid_i64 (a b x : Int) : i64 (sid a b x) := by
 unfold sid
 split
 ·simp [i64]
 ·split <;> simp [i64]
def opnS (r : Rte) (id' : Int) (s t : Sta) : Sta × Sta × Nat :=
 if chkV r ≠ 0 then (zSta, zSta, chkV r)
 else if (keeS s (sid r.f.k0 r.f.k1 r.a) (holV r id')).2 ≠ 0 then (zSta, zSta, (keeS s (sid r.f.k0 r.f.k1 r.a) (holV r id')).2)
 else if (keeS t (sid r.s.k0 r.s.k1 r.b) (holV r id')).2 ≠ 0 then (zSta, zSta, (keeS t (sid r.s.k0 r.s.k1 r.b) (holV r id')).2)
 else ((keeS s (sid r.f.k0 r.f.k1 r.a) (holV r id')).1, (keeS t (sid r.s.k0 r.s.k1 r.b) (holV r id')).1, 0)
def SSE (q : Sta × Sta × Nat) : EV := .tup [.agg (staC q.1), .agg (staC q.2.1), .c (.fz (.lit (errV q.2.2)))]
theorem hke (s : Sta) (k : Int) (r : Rte) (id' : Int) (hs : s.ok) (hk : i64 k) (hr : r.ok) (hi : i64 id') : ECalls Tryz.prog 42 [SV s, I .i64 k, .v (.agg [iC id', iC r.am, .row 0 3])] [.row 3 1 (intv (srt [r.a, r.b, r.c]))] fun y H' => H' = [none] ∧ y = SE (keeS s k (holV r id')) := by
 have hl : List.take 3 (intv (srt [r.a, r.b, r.c])) = intv (srt [r.a, r.b, r.c]) := List.tkL (by simp [srt_len])
 exact ecalls_thaw (SKeep_ok s k (holV r id') hs hk (holV_ok hr hi)) (by simp [SV, staC, I, hc0', holV, iC, hl])
theorem VOpen_ok (r : Rte) (id' : Int) (s t : Sta) (hr : r.ok) (hi : i64 id') (hs : s.ok) (ht : t.ok) : ECalls Tryz.prog 10 [RVv r, I .i64 id', SV s, SV t] [] fun y H' => H' = [] ∧ y = SSE (opnS r id' s t) := by
 obtain ⟨⟨h1, _⟩, ⟨h2, _⟩, _⟩ := id hr
 have l0 := rteC_len h1 h2
 have t0 := rt_take h1 h2
 refine ecalls k_VOpen ?_
 simp [c_VOpen, RVv, I, SV, staC, l0, t0, -errV_0]
 refine call0 (VCheck_ok r hr) (by simp [RVv]) ?_
 rintro y H' ⟨rfl, rfl⟩
 refine ⟨.inl (by simp), le_ok rfl, ?_⟩
 by_cases c0 : chkV r = 0
 rotate_left
 ·have hv : opnS r id' s t = (zSta, zSta, chkV r) := by unfold opnS; rw [if_pos c0]
  rw [hv]
  simp [SSE, staC, zSta, c0, -errV_0]
  refine finW _ (weak_nlB (o := 48) (k := 3) 36 rfl rfl) (finW _ (weak_nlB (o := 48) (k := 4) 3 rfl rfl) (finW _ (weak_nlB (o := 64) (k := 3) 36 rfl rfl) (finW _ (weak_nlB (o := 64) (k := 4) 3 rfl rfl) ?_)))
  exact fin0
 simp [c0, l0, t0, -errV_0]
 refine call0 (Vsides_ok r hr) (by simp [RVv]) ?_
 rintro y H' ⟨rfl, rfl⟩
 refine ⟨.inl (by simp [iC]), le_ok rfl, ?_⟩
 simp [iC, l0, t0, -errV_0]
 refine call0 (Vhold_ok r id' hr) (by simp [RVv, I]) ?_
 rintro y H' ⟨rfl, rfl⟩
 refine ⟨.inl (by simp), by simp, ?_⟩
 simp [iC, -errV_0]
 have hk1 := hke s (sid r.f.k0 r.f.k1 r.a) r id' hs (sid_i64 _ _ _) hr hi
 have hk2 := hke t (sid r.s.k0 r.s.k1 r.b) r id' ht (sid_i64 _ _ _) hr hi
 obtain ⟨A, hA⟩ : ∃ A, keeS s (sid r.f.k0 r.f.k1 r.a) (holV r id') = A := ⟨_, rfl⟩
 obtain ⟨B, hB⟩ : ∃ B, keeS t (sid r.s.k0 r.s.k1 r.b) (holV r id') = B := ⟨_, rfl⟩
 rw [hA] at hk1
 rw [hB] at hk2
 have ho : opnS r id' s t = if A.2 ≠ 0 then (zSta, zSta, A.2) else if B.2 ≠ 0 then (zSta, zSta, B.2) else (A.1, B.1, 0) := by unfold opnS; rw [if_neg (by simpa using c0), hA, hB]
 rw [ho]
 refine callH [352] hk1 (by simp [SV, staC, I, iC]) (by simp) (by simp) (by simp) (by simp) ?_
 rintro y H' ⟨rfl, rfl⟩
 refine ⟨.inl (by simp), by simp, ?_⟩
 by_cases c1 : A.2 = 0
 rotate_left
 ·rw [if_pos c1]
  simp [SE, SSE, staC, zSta, c1, -errV_0]
  refine finW _ (weak_nlB (o := 48) (k := 3) 36 rfl rfl) (finW _ (weak_nlB (o := 48) (k := 4) 3 rfl rfl) (finW _ (weak_nlB (o := 64) (k := 3) 36 rfl rfl) (finW _ (weak_nlB (o := 64) (k := 4) 3 rfl rfl) ?_)))
  exact fin0
 rw [if_neg (by simpa using c1)]
 obtain ⟨Q, hQ⟩ : ∃ Q, (if B.2 ≠ 0 then (zSta, zSta, B.2) else (A.1, B.1, 0)) = Q := ⟨_, rfl⟩
 rw [hQ]
 simp [SE, staC, c1, l0, t0, -errV_0]
 refine call0 (Vhold_ok r id' hr) (by simp [RVv, I]) ?_
 rintro y H' ⟨rfl, rfl⟩
 refine ⟨.inl (by simp), by simp, ?_⟩
 simp [iC, -errV_0]
 refine callH [576] hk2 (by simp [SV, staC, I, iC]) (by simp) (by simp) (by simp) (by simp) ?_
 rintro y H' ⟨rfl, rfl⟩
 refine ⟨.inl (by simp), by simp, ?_⟩
 by_cases c2 : B.2 = 0
 rotate_left
 ·rw [if_pos c2] at hQ
  rw [← hQ]
  simp [SE, SSE, staC, zSta, c2, -errV_0]
  refine finW _ (weak_nlB (o := 48) (k := 3) 36 rfl rfl) (finW _ (weak_nlB (o := 48) (k := 4) 3 rfl rfl) (finW _ (weak_nlB (o := 64) (k := 3) 36 rfl rfl) (finW _ (weak_nlB (o := 64) (k := 4) 3 rfl rfl) ?_)))
  exact fin0
 rw [if_neg (by simpa using c2)] at hQ
 rw [← hQ]
 simp [SE, SSE, staC, c2, -errV_0]
 exact fin0
def ylm7 : UL | _ => [xI 6 22 1 20 21, xL 7 23 22, xb 8 24 .neq 19 23]
def ylm8 : UL | _ => xM 0 16 0 :: xM 1 17 5 :: xI 2 18 1 16 17 :: xL 3 19 18 :: xM 4 20 1 :: xM 5 21 5 :: hid ylm7
def ybmd : UB | _ => .seq (reg0 [xb 0 14 .lss 13 12] 1) (.seq (.cond (.t 14) .skip (.exit 0)) (.seq (.block 1 (.seq (reg0 [xM 0 15 13, xM 1 5 15] 2) (.seq (reg0 (hid ylm8) 9) (.cond (.t 24) (.seq (reg0 [xQ 0 4 (.mov (.k (.bool false)))] 1) .ret) .skip)))) (reg0 [xc 0 25 .add 13 1, xM 1 13 25] 2)))
def ybmf : UB | _ => .seq (.seq (reg0 [xM 0 11 0, xE 1 12 11, xC 2 13 0] 3) (.block 0 (.loop (hid ybmd)))) (.seq (reg0 [xQ 0 4 (.mov (.k (.bool true)))] 1) .ret)
def ybmg : UB | _ => .seq (reg0 [xQ 0 4 (.mov (.k (.bool false)))] 1) (.seq (.seq (reg0 [xM 0 6 0, xE 1 7 6, xM 2 8 1, xE 3 9 8, xb 4 10 .neq 7 9] 5) (.cond (.t 10) (.seq (reg0 [xQ 0 4 (.mov (.k (.bool false)))] 1) .ret) .skip)) (hid ybmf))
attribute [simp] ylm7 ylm8 ybmd ybmf ybmg
def c_EqI : EB × List QOp × Nat := ((hid ybmg), [(.mov (.t 4))], 26)
theorem k_EqI : cfun Tryz.prog 111 = some c_EqI := by kernel_rfl
def ylmi : UL | _ => [xM 18 4 22]
def ylmj : UL | _ => yF 12 17 16 true 2 3 :: yL 13 18 16 true 17 :: yF 14 19 16 true 2 2 :: yL 15 20 16 true 19 :: ⟨16, (some 21), (some (16, true)), (.call 111 [.t 18, .t 20]), []⟩ :: xR 17 22 16 21 :: hid ylmi
def ylmk : UL | _ => yL 6 11 9 true 10 :: yF 7 12 9 true 1 2 :: yL 8 13 9 true 12 :: xG 9 14 9 true (.bin .eql (.t 11) (.t 13)) :: xR 10 15 9 14 :: xM 11 16 15 :: hid ylmj
def ylml : UL | _ => xF 0 5 0 3 :: xL 1 6 5 :: xL 2 7 1 :: xb 3 8 .eql 6 7 :: xM 4 9 8 :: yF 5 10 9 true 1 3 :: hid ylmk
def ybmm : UB | _ => .seq (reg0 [xW 0 3 124 0, xQ 1 4 (.mov (.k (.bool false)))] 2) (.seq (reg0 (hid ylml) 19) .ret)
attribute [simp] ylmi ylmj ylmk ylml ybmm
def c_Vh1 : EB × List QOp × Nat := ((hid ybmm), [(.mov (.t 4))], 23)
theorem k_Vh1 : cfun Tryz.prog 110 = some c_Vh1 := by kernel_rfl
theorem EqI_ok (a b : List Int) (ha : a.length ≤ 100000000) : ECalls Tryz.prog 111 [IL a, IL b] [] fun y H' => H' = [] ∧ y = .lit (.bool (decide (a = b))) := by
 refine ecalls k_EqI ?_
 simp [c_EqI, IL, I]
 by_cases hl : a.length = b.length
 rotate_left
 ·have hl' : ¬ (a.length : Int) = (b.length : Int) := by omega
  rw [decide_eq_false (fun h => hl (by rw [h]))]
  simp [hl, hl']
  exact fin0
 obtain ⟨D, hD⟩ : ∃ D, decide (a = b) = D := ⟨_, rfl⟩
 rw [hD]
 simp [hl]
 refine eloop (α := Nat) (fun i => i ≤ a.length ∧ ∀ k, k < i → (a[k]?).getD 0 = (b[k]?).getD 0) (fun i => a.length - i) (fun i => [IL a, IL b, xA, xA, xA, xA, xA, xA, xA, xA, xA, xA, I .i64 b.length, I .i64 i, xA, xA, xA, xA, xA, xA, xA, xA, xA, xA, xA, .any]) (fun _ => []) 0 []
  ⟨Nat.zero_le _, fun k h => by omega⟩ (by simp [I, IL]) (by simp) (by simp) (by simp) (by simp) ?_
 rintro i ⟨hi, hno⟩
 by_cases hlt : i < a.length
 ·have hlb : i < b.length := by omega
  have hli : (i : Int) < (b.length : Int) := by omega
  have w4 := wS (i := i) (by omega)
  obtain ⟨A, hA⟩ : ∃ A, (a[i]?).getD 0 = A := ⟨_, rfl⟩
  obtain ⟨B, hB⟩ : ∃ B, (b[i]?).getD 0 = B := ⟨_, rfl⟩
  have ga : ∀ h2, (intv a)[i]'h2 = [.lit (.int .i64 A)] := fun h2 => by rw [intv_at hlt, hA]
  have gb : ∀ h2, (intv b)[i]'h2 = [.lit (.int .i64 B)] := fun h2 => by rw [intv_at hlb, hB]
  by_cases he : A = B
  ·simp [I, IL, hlt, hlb, hli, ga, gb, he, w4, -Int.natCast_add]
   refine round (i + 1) [] ⟨by omega, ?_⟩ (by omega) (by simp [I, IL]) (by simp) (by simp) (by simp) (by simp)
   intro k hk
   rcases Nat.lt_or_ge k i with h1 | h1
   ·exact hno k h1
   ·obtain rfl : k = i := by omega
    rw [hA, hB, he]
  ·have hDf : D = false := by
    rw [← hD]
    refine decide_eq_false fun h => he ?_
    rw [← hA, ← hB, h]
   subst hDf
   simp [I, IL, hlt, hlb, hli, ga, gb, he]
   exact fin0
 ·have hie : i = a.length := by omega
  subst hie
  have hDt : D = true := by
   rw [← hD]
   refine decide_eq_true (List.ext_getElem hl fun k h1 h2 => ?_)
   have := hno k h1
   simpa [h1, h2] using this
  subst hDt
  have hll : (a.length : Int) = (b.length : Int) := by omega
  simp [I, IL, hl]
  exact fin0
def BXI (x : Int) : EO := .box 3 [.fz (.lit (.int .i64 x))]
def BHo (id' am : Int) : EO := .box 124 [.fz (.lit (.int .i64 id')), .fz (.lit (.int .i64 am)), .row 2 3]
def RKo (K : List Int) : EO := .row 3 1 (intv K)
def hitV (id' am : Int) (K : List Int) (h : Hol) : Bool := decide (h.id = id') && (decide (h.am = am) && decide (h.keys = K))
theorem Vh1_ok (h : Hol) (id' am : Int) (K : List Int) (hh : h.ok) (hK : K.length = 3) : ECalls Tryz.prog 110 [.v (.agg (holC h)), .v (.c (.ptr 0 0)), .v (.c (.ptr 1 0))] [BXI id', BHo id' am, RKo K] fun y H' => H' = [some (BXI id'), some (BHo id' am), some (RKo K)] ∧ y = .lit (.bool (hitV id' am K h)) := by
 obtain ⟨_, _, _, hkl⟩ := id hh
 have tK : List.take 3 (intv K) = intv K := List.tkL (by simp [hK])
 refine ecalls k_Vh1 ?_
 simp [c_Vh1, holC, BXI, BHo, RKo]
 unfold hitV
 by_cases c1 : h.id = id'
 rotate_left
 ·simp [c1]
  exact fin [] (by decide) rfl rfl (by simp [objsOut, show List.range 3 = [0, 1, 2] from rfl]) ⟨rfl, rfl⟩
 by_cases c2 : h.am = am
 rotate_left
 ·simp [c1, c2]
  exact fin [] (by decide) rfl rfl (by simp [objsOut, show List.range 3 = [0, 1, 2] from rfl]) ⟨rfl, rfl⟩
 simp [c1, c2]
 refine call0 (EqI_ok h.keys K hkl) (by simp [IL, tK]) ?_
 rintro y H' ⟨rfl, rfl⟩
 refine ⟨.inr ⟨rfl, by simp⟩, le_ok rfl, ?_⟩
 simp
 exact fin [] (by decide) rfl rfl (by simp [objsOut, show List.range 3 = [0, 1, 2] from rfl]) ⟨rfl, rfl⟩
theorem Vh1_body : bodyOK Tryz.prog 110 = true := by kernel_rfl
def ylmr : UL | _ => [xM 0 11 1, xM 1 12 0, xM 2 13 5, xI 3 14 3 12 13, xD 4 15 3 14, xO 5 16 (.clo (.t 11) [.t 15])]
def ybmw : UB | _ => .seq (reg0 [xb 0 9 .lss 8 7] 1) (.seq (.cond (.t 9) .skip (.exit 0)) (.seq (.block 1 (.seq (reg0 [xM 0 10 8, xM 1 5 10] 2) (.seq (reg0 (hid ylmr) 6) (.cond (.t 16) (.seq (reg0 [xM 0 17 5, xM 1 4 17] 2) .ret) .skip)))) (reg0 [xc 0 18 .add 8 1, xM 1 8 18] 2)))
def ybmy : UB | _ => .seq (.seq (reg0 [xM 0 6 0, xE 1 7 6, xC 2 8 0] 3) (.block 0 (.loop (hid ybmw)))) (.seq (reg0 [xQ 0 4 (.mov (.k (.int .i64 (-1))))] 1) .ret)
def ybmz : UB | _ => .seq (reg0 [xC 0 4 0] 1) (hid ybmy)
attribute [simp] ylmr ybmw ybmy ybmz
def c_IdxH : EB × List QOp × Nat := ((hid ybmz), [(.mov (.t 4))], 19)
theorem k_IdxH : cfun Tryz.prog 166 = some c_IdxH := by kernel_rfl
def yln1 : UL | _ => [xM 0 5 0, xM 1 6 1, xO 2 7 (.call 166 [.t 5, .t 6]), xc 3 8 .geq 7 0, xM 4 4 8]
def ybn2 : UB | _ => .seq (reg0 [xQ 0 4 (.mov (.k (.bool false)))] 1) (.seq (reg0 (hid yln1) 5) .ret)
attribute [simp] yln1 ybn2
def c_ConH : EB × List QOp × Nat := ((hid ybn2), [(.mov (.t 4))], 9)
theorem k_ConH : cfun Tryz.prog 109 = some c_ConH := by kernel_rfl
def yln3 : UL | _ => [xW 0 3 44 0, xW 1 4 49 1, xW 2 5 3 2, xQ 3 6 (.mov (.k (.bool false)))]
def yln4 : UL | _ => [xD 0 8 81 3, xL 1 9 5, xO 2 10 (.call 43 [.t 8, .t 9]), xQ 3 7 (.alloc 124 [xZ, xZ, xS]), xN 4 (.fz (.sto 3 (.t 7) (.t 10)))]
def yln5 : UL | _ => [xF 0 11 4 4, xL 1 12 11, xQ 2 13 (.mkf 110 [.t 5, .t 7]), xO 3 14 (.call 109 [.t 12, .t 13]), xM 4 6 14]
def ybn6 : UB | _ => .seq (reg0 (hid yln3) 4) (.seq (reg0 (hid yln4) 5) (.seq (reg0 (hid yln5) 5) .ret))
attribute [simp] yln3 yln4 yln5 ybn6
def c_Vholds : EB × List QOp × Nat := ((hid ybn6), [(.mov (.t 6))], 15)
theorem k_Vholds : cfun Tryz.prog 52 = some c_Vholds := by kernel_rfl
def yln7 : UL | _ => [xW 0 5 44 0, xW 1 6 49 1, xQ 2 10 (.alloc 49 [xZ, xZ, xZ, xS, xS]), xQ 3 11 (.mov (.k .nilIface))]
def yln9 : UL | _ => [xO 6 20 (.call 112 [.t 14, .t 15, .t 19]), xX 7 21 0 20, xX 8 22 1 20, xN 9 (.fz (.sto 5 (.t 10) (.t 21))), xM 10 11 22]
def ylna : UL | _ => xD 0 14 5 6 :: xM 1 15 2 :: xF 2 16 79 5 :: xL 3 17 16 :: xM 4 18 4 :: xb 5 19 .sub 17 18 :: hid yln9
def ylnc : UL | _ => [xN 6 (.fz (.sto 5 (.t 10) (.t 27))), xM 7 11 28]
def ylnd : UL | _ => xD 0 23 5 6 :: xM 1 24 2 :: xM 2 25 4 :: xO 3 26 (.call 112 [.t 23, .t 24, .t 25]) :: xX 4 27 0 26 :: xX 5 28 1 26 :: hid ylnc
def ybne : UB | _ => .seq (reg0 (hid yln7) 4) (.seq (.seq (reg0 [xM 0 12 3, xc 1 13 .eql 12 0] 2) (.cond (.t 13) (.seq (reg0 (hid ylna) 11) .ret) .skip)) (.seq (reg0 (hid ylnd) 8) .ret))
attribute [simp] yln7 yln9 ylna ylnc ylnd ybne
def c_Vfree : EB × List QOp × Nat := ((hid ybne), [(.lda 5 (.t 10)), (.mov (.t 11))], 29)
theorem k_Vfree : cfun Tryz.prog 53 = some c_Vfree := by kernel_rfl
def ylnf : UL | _ => [xW 0 5 44 0, xW 1 8 49 3, xW 2 9 49 4, xQ 3 10 (.alloc 49 [xZ, xZ, xZ, xS, xS]), xQ 4 11 (.alloc 49 [xZ, xZ, xZ, xS, xS]), xQ 5 12 (.mov (.k .nilIface))]
def ylni : UL | _ => [xQ 0 23 (.build [xZ, xZ, xZ, xS, xS] []), xQ 1 24 (.build [xZ, xZ, xZ, xS, xS] []), xM 2 25 13, xN 3 (.fz (.sto 5 (.t 10) (.t 23))), xN 4 (.fz (.sto 5 (.t 11) (.t 24))), xM 5 12 25]
def ylnk : UL | _ => [xG 6 33 29 false (.bin .gtr (.t 30) (.t 32)), xP 7 34 29 33, xM 8 26 34]
def ylnl : UL | _ => xM 0 27 2 :: xc 1 28 .lss 27 0 :: xM 2 29 28 :: yM 3 30 29 false 2 :: yF 4 31 29 false 79 5 :: yL 5 32 29 false 31 :: hid ylnk
def ylnm : UL | _ => [xQ 0 35 (.build [xZ, xZ, xZ, xS, xS] []), xQ 1 36 (.build [xZ, xZ, xZ, xS, xS] []), xQ 2 37 (.mki 132 (xK 20)), xN 3 (.fz (.sto 5 (.t 10) (.t 35))), xN 4 (.fz (.sto 5 (.t 11) (.t 36))), xM 5 12 37]
def ylnn : UL | _ => [xM 12 38 50]
def ylno : UL | _ => xG 6 45 44 false (.lda 81 (.t 5)) :: xG 7 46 44 false (.lda 5 (.t 9)) :: yM 8 47 44 false 1 :: ⟨9, (some 48), (some (44, false)), (.call 52 [.t 45, .t 46, .t 47]), []⟩ :: xG 10 49 44 false (.un .not (.t 48)) :: xP 11 50 44 49 :: hid ylnn
def ylnp : UL | _ => xD 0 39 81 5 :: xD 1 40 5 8 :: xM 2 41 1 :: xO 3 42 (.call 52 [.t 39, .t 40, .t 41]) :: xQ 4 43 (.un .not (.t 42)) :: xM 5 44 43 :: hid ylno
def ylnq : UL | _ => [xQ 0 51 (.build [xZ, xZ, xZ, xS, xS] []), xQ 1 52 (.build [xZ, xZ, xZ, xS, xS] []), xQ 2 53 (.mki 132 (xK 8)), xN 3 (.fz (.sto 5 (.t 10) (.t 51))), xN 4 (.fz (.sto 5 (.t 11) (.t 52))), xM 5 12 53]
def ylnt : UL | _ => [xM 6 15 58]
def ylnu : UL | _ => xD 0 55 81 5 :: xO 1 56 (.call 41 [.t 55]) :: xM 2 54 56 :: xX 3 57 0 54 :: xX 4 58 1 54 :: xM 5 14 57 :: hid ylnt
def ylnv : UL | _ => [xM 6 59 65, xX 7 66 0 59, xX 8 67 1 59, xQ 9 16 (.alloc 49 [xZ, xZ, xZ, xS, xS]), xN 10 (.fz (.sto 5 (.t 16) (.t 66))), xM 11 17 67]
def ylnw : UL | _ => xD 0 60 81 5 :: xD 1 61 5 8 :: xM 2 62 1 :: xM 3 63 14 :: xM 4 64 2 :: xO 5 65 (.call 53 [.t 60, .t 61, .t 62, .t 63, .t 64]) :: hid ylnv
def ylny : UL | _ => [xQ 0 70 (.build [xZ, xZ, xZ, xS, xS] []), xQ 1 71 (.build [xZ, xZ, xZ, xS, xS] []), xM 2 72 17, xN 3 (.fz (.sto 5 (.t 10) (.t 70))), xN 4 (.fz (.sto 5 (.t 11) (.t 71))), xM 5 12 72]
def ylo0 : UL | _ => [xM 6 73 79, xX 7 80 0 73, xX 8 81 1 73, xQ 9 18 (.alloc 49 [xZ, xZ, xZ, xS, xS]), xN 10 (.fz (.sto 5 (.t 18) (.t 80))), xM 11 17 81]
def ylo1 : UL | _ => xD 0 74 81 5 :: xD 1 75 5 9 :: xM 2 76 1 :: xM 3 77 15 :: xM 4 78 2 :: xO 5 79 (.call 53 [.t 74, .t 75, .t 76, .t 77, .t 78]) :: hid ylo0
def ylo3 : UL | _ => [xQ 0 84 (.build [xZ, xZ, xZ, xS, xS] []), xQ 1 85 (.build [xZ, xZ, xZ, xS, xS] []), xM 2 86 17, xN 3 (.fz (.sto 5 (.t 10) (.t 84))), xN 4 (.fz (.sto 5 (.t 11) (.t 85))), xM 5 12 86]
def ylo5 : UL | _ => [xD 0 87 5 16, xD 1 88 5 18, ⟨2, none, none, (.fz (.sto 5 (.t 10) (.t 87))), [1]⟩, xN 3 (.fz (.sto 5 (.t 11) (.t 88))), xQ 4 12 (.mov (.k .nilIface))]
def ybo6 : UB | _ => .seq (reg0 (hid ylo1) 12) (.seq (.seq (reg0 [xM 0 82 17, xQ 1 83 (.eqi true (.t 82))] 2) (.cond (.t 83) (.seq (reg0 (hid ylo3) 6) .ret) .skip)) (.seq (reg1 (hid ylo5) 5) .ret))
def ybo7 : UB | _ => .seq (reg0 (hid ylnw) 12) (.seq (.seq (reg0 [xM 0 68 17, xQ 1 69 (.eqi true (.t 68))] 2) (.cond (.t 69) (.seq (reg0 (hid ylny) 6) .ret) .skip)) (hid ybo6))
def ybo8 : UB | _ => .seq (.block 0 (.seq (reg0 (hid ylnl) 9) (.cond (.t 26) (.seq (reg0 (hid ylnm) 6) .ret) (.seq (reg0 (hid ylnp) 13) (.cond (.t 38) (.seq (reg0 (hid ylnq) 6) .ret) .skip))))) (.seq (reg0 (hid ylnu) 7) (hid ybo7))
def ybo9 : UB | _ => .seq (.seq (reg0 [xD 0 19 81 5, xO 1 20 (.call 15 [.t 19]), xM 2 13 20] 3) (.seq (reg0 [xM 0 21 13, xQ 1 22 (.eqi true (.t 21))] 2) (.cond (.t 22) (.seq (reg0 (hid ylni) 6) .ret) .skip))) (hid ybo8)
def yboa : UB | _ => .seq (reg0 (hid ylnf) 6) (hid ybo9)
attribute [simp] ylnf ylni ylnk ylnl ylnm ylnn ylno ylnp ylnq ylnt ylnu ylnv ylnw ylny ylo0 ylo1 ylo3 ylo5 ybo6 ybo7 ybo8 ybo9 yboa
def c_VClose : EB × List QOp × Nat := ((hid yboa), [(.lda 5 (.t 10)), (.lda 5 (.t 11)), (.mov (.t 12))], 89)
theorem k_VClose : cfun Tryz.prog 17 = some c_VClose := by kernel_rfl
theorem IdxH_ok (l : List Hol) (id' am : Int) (K : List Int) (hl : ∀ h ∈ l, h.ok) (hn : l.length ≤ 100000000) (hK : K.length = 3) : ECalls Tryz.prog 166 [HL l, .v (.c (.clo 110 [(0, 0), (1, 0)]))] [BXI id', BHo id' am, RKo K] fun y H' => H' = [some (BXI id'), some (BHo id' am), some (RKo K)] ∧ ((l.any (hitV id' am K) = false ∧ y = I .i64 (-1)) ∨ (l.any (hitV id' am K) = true ∧ ∃ i : Nat, y = I .i64 i)) := by
 obtain ⟨B, hB⟩ : ∃ B, l.any (hitV id' am K) = B := ⟨_, rfl⟩
 rw [hB]
 refine ecalls k_IdxH ?_
 simp [c_IdxH, HL, I]
 refine eloop (α := Nat) (fun i => i ≤ l.length ∧ ∀ (k : Nat) (x : Hol), k < i → l[k]? = some x → hitV id' am K x = false) (fun i => l.length - i)
  (fun i => [HL l, .v (.c (.clo 110 [(0, 0), (1, 0)])), .any, .any, .any, .any, .any, I .i64 l.length, I .i64 i, .any, .any, .any, .any, .any, .any, .any, .any, .any, .any]) (fun _ => [some (BXI id'), some (BHo id' am), some (RKo K)]) 0 [0, 1, 2]
  ⟨Nat.zero_le _, fun k x h => by omega⟩ (by simp [I, HL]) (by simp [BXI, BHo, RKo]) (by simp [BXI, BHo, RKo]) (by decide) (by simp) ?_
 rintro i ⟨hi, hlo⟩
 simp [I, HL, BXI, BHo, RKo]
 refine alt (fun hlt => ?_) (fun hlt => ?_)
 ·have hln : i < l.length := by omega
  obtain ⟨p, hc⟩ : ∃ p, l[i]? = some p := ⟨l[i], by simp [hln]⟩
  have hge : (holv l)[i]'(by simp [hln]) = holF p := gE (holv_get hc)
  have w4 := wS (i := i) (by omega)
  have hpo := hl p (List.mgE hc)
  have hv1 := Vh1_ok p id' am K hpo hK
  simp [hln, hge, holF]
  refine ⟨Vh1_body, ?_⟩
  refine callH [0, 1, 2] hv1 (by simp [holC]) (by simp [BXI, BHo, RKo]) (by simp) (by simp) (by simp) ?_
  rintro y H' ⟨rfl, rfl⟩
  refine ⟨.inl (by simp [-List.flatMap_eq_nil_iff]), by simp, ?_⟩
  simp [BXI, BHo, RKo]
  refine alt (fun he => ?_) (fun he => ?_)
  ·simp
   exact fin [] (by decide) rfl rfl (by simp [objsOut, show List.range 3 = [0, 1, 2] from rfl]) ⟨rfl, .inr ⟨by rw [← hB]; exact List.any_eq_true.2 ⟨p, List.mgE hc, he⟩, i, rfl⟩⟩
  ·simp [w4, -Int.natCast_add]
   refine round (i + 1) [0, 1, 2] ⟨by omega, ?_⟩ (by omega) (by simp [I, HL]) (by simp [BXI, BHo, RKo]) (by simp [BXI, BHo, RKo]) (by decide) (by simp)
   intro k q hk hq
   rcases Nat.lt_or_ge k i with h1 | h1
   ·exact hlo k q h1 hq
   ·obtain rfl : k = i := by omega
    rw [hc] at hq
    obtain rfl := Option.some.inj hq
    simpa using he
 ·simp
  refine fin [] (by decide) rfl rfl (by simp [objsOut, show List.range 3 = [0, 1, 2] from rfl]) ⟨rfl, .inl ⟨?_, rfl⟩⟩
  rw [← hB, List.any_eq_false]
  intro x hx
  obtain ⟨k, hk⟩ := List.getElem?_of_mem hx
  have := hlo k x (by have := lt_len hk; omega) hk
  simp [this]
theorem ConH_ok (l : List Hol) (id' am : Int) (K : List Int) (hl : ∀ h ∈ l, h.ok) (hn : l.length ≤ 100000000) (hK : K.length = 3) : ECalls Tryz.prog 109 [HL l, .v (.c (.clo 110 [(0, 0), (1, 0)]))] [BXI id', BHo id' am, RKo K] fun y H' => H' = [some (BXI id'), some (BHo id' am), some (RKo K)] ∧ y = .lit (.bool (l.any (hitV id' am K))) := by
 refine ecalls k_ConH ?_
 simp [c_ConH, HL, BXI, BHo, RKo]
 refine callH [0, 1, 2] (IdxH_ok l id' am K hl hn hK) (by simp [HL]) (by simp [BXI, BHo, RKo]) (by simp) (by simp) (by simp) ?_
 rintro y H' ⟨rfl, h⟩
 rcases h with ⟨h, rfl⟩ | ⟨h, i, rfl⟩
 ·refine ⟨.inl (by simp [I]), by simp, ?_⟩
  rw [h]
  simp [I, BXI, BHo, RKo]
  exact fin [] (by decide) rfl rfl (by simp [objsOut, show List.range 3 = [0, 1, 2] from rfl]) ⟨rfl, rfl⟩
 ·refine ⟨.inl (by simp [I]), by simp, ?_⟩
  have n0 : (0 : Int) ≤ (i : Int) := by omega
  rw [h]
  simp [I, BXI, BHo, RKo, n0]
  exact fin [] (by decide) rfl rfl (by simp [objsOut, show List.range 3 = [0, 1, 2] from rfl]) ⟨rfl, rfl⟩
def hasV (r : Rte) (s : Sta) (id' : Int) : Bool := s.holds.any (hitV id' r.am (srt [r.a, r.b, r.c]))
theorem Vholds_ok (r : Rte) (s : Sta) (id' : Int) (hr : r.ok) (hs : s.ok) : ECalls Tryz.prog 52 [RVv r, SV s, I .i64 id'] [] fun y H' => H' = [] ∧ y = .lit (.bool (hasV r s id')) := by
 obtain ⟨⟨h1, _⟩, ⟨h2, _⟩, _⟩ := id hr
 obtain ⟨ok1, ok2, ok3, ok4, ok5, ok6, ok7⟩ := id hs
 have l0 := rteC_len h1 h2
 have t0 := rt_take h1 h2
 refine ecalls k_Vholds ?_
 simp [c_Vholds, RVv, SV, staC, I, l0, t0]
 refine call0 (Vhold_ok r id' hr) (by simp [RVv, I]) ?_
 rintro y H' ⟨rfl, rfl⟩
 refine ⟨.inl (by simp), by simp, ?_⟩
 simp [iC]
 refine callH [32, 112, 96] (ConH_ok s.holds id' r.am (srt [r.a, r.b, r.c]) ok5 ok7 (by rw [srt_len]; rfl)) (by simp [HL]) (by simp [BXI, BHo, RKo]) (by simp) (by simp) (by simp) ?_
 rintro y H' ⟨rfl, rfl⟩
 refine ⟨.inl (by simp), by simp, ?_⟩
 simp
 exact fin0
def freV (r : Rte) (s : Sta) (id' near far : Int) : Sta × Nat := if near = 0 then freS s id' (r.am - far) else freS s id' far
theorem Vfree_ok (r : Rte) (s : Sta) (id' near far : Int) (hr : r.ok) (hs : s.ok) (hi : i64 id') (hf : i64 far) (hw : i64 (r.am - far)) : ECalls Tryz.prog 53 [RVv r, SV s, I .i64 id', I .i64 near, I .i64 far] [] fun y H' => H' = [] ∧ y = SE (freV r s id' near far) := by
 obtain ⟨⟨h1, _⟩, ⟨h2, _⟩, _⟩ := id hr
 have l0 := rteC_len h1 h2
 have t0 := rt_take h1 h2
 have e79 := idx_of (rt_79 h1 h2) (by omega)
 have w1 : IntKind.i64.wrap (r.am - far) = r.am - far := wrap_i64 hw.1 hw.2
 refine ecalls k_Vfree ?_
 simp [c_Vfree, RVv, SV, staC, I, l0, t0, -errV_0]
 by_cases c0 : near = 0
 ·have hv : freV r s id' near far = freS s id' (r.am - far) := if_pos c0
  rw [hv]
  simp [c0, e79, l0, iC, w1, -errV_0]
  refine call0 (SFree_ok s id' (r.am - far) hs hi hw) (by simp [SV, staC, I]) ?_
  rintro y H' ⟨rfl, rfl⟩
  refine ⟨.inl (by simp), le_ok rfl, ?_⟩
  simp [SE, staC, -errV_0]
  exact fin0
 ·have hv : freV r s id' near far = freS s id' far := if_neg c0
  rw [hv]
  simp [c0, -errV_0]
  refine call0 (SFree_ok s id' far hs hi hf) (by simp [SV, staC, I]) ?_
  rintro y H' ⟨rfl, rfl⟩
  refine ⟨.inl (by simp), le_ok rfl, ?_⟩
  simp [SE, staC, -errV_0]
  exact fin0
def cloS (r : Rte) (id' last : Int) (s t : Sta) : Sta × Sta × Nat :=
 if chkV r ≠ 0 then (zSta, zSta, chkV r)
 else if last < 0 ∨ r.am < last then (zSta, zSta, 20)
 else if hasV r s id' = false ∨ hasV r t id' = false then (zSta, zSta, 8)
 else if (freV r s id' (sid r.f.k0 r.f.k1 r.a) last).2 ≠ 0 then (zSta, zSta, (freV r s id' (sid r.f.k0 r.f.k1 r.a) last).2)
 else if (freV r t id' (sid r.s.k0 r.s.k1 r.b) last).2 ≠ 0 then (zSta, zSta, (freV r t id' (sid r.s.k0 r.s.k1 r.b) last).2)
 else ((freV r s id' (sid r.f.k0 r.f.k1 r.a) last).1, (freV r t id' (sid r.s.k0 r.s.k1 r.b) last).1, 0)
@[simp] theorem errV_20v : Value.iface 132 (.int .i64 20) = errV 20 := rfl
@[simp] theorem errV_8v : Value.iface 132 (.int .i64 8) = errV 8 := rfl
theorem VClose_ok (r : Rte) (id' last : Int) (s t : Sta) (hr : r.ok) (hi : i64 id') (hla : i64 last) (hs : s.ok) (ht : t.ok) : ECalls Tryz.prog 17 [RVv r, I .i64 id', I .i64 last, SV s, SV t] [] fun y H' => H' = [] ∧ y = SSE (cloS r id' last s t) := by
 obtain ⟨⟨h1, _⟩, ⟨h2, _⟩, _⟩ := id hr
 have l0 := rteC_len h1 h2
 have t0 := rt_take h1 h2
 have e79 := idx_of (rt_79 h1 h2) (by omega)
 refine ecalls k_VClose ?_
 simp [c_VClose, RVv, I, SV, staC, l0, t0, -errV_0]
 refine call0 (VCheck_ok r hr) (by simp [RVv]) ?_
 rintro y H' ⟨rfl, rfl⟩
 refine ⟨.inl (by simp), le_ok rfl, ?_⟩
 by_cases c0 : chkV r = 0
 rotate_left
 ·have hv : cloS r id' last s t = (zSta, zSta, chkV r) := by unfold cloS; rw [if_pos c0]
  rw [hv]
  simp [SSE, staC, zSta, c0, -errV_0]
  refine finW _ (weak_nlB (o := 48) (k := 3) 36 rfl rfl) (finW _ (weak_nlB (o := 48) (k := 4) 3 rfl rfl) (finW _ (weak_nlB (o := 64) (k := 3) 36 rfl rfl) (finW _ (weak_nlB (o := 64) (k := 4) 3 rfl rfl) ?_)))
  exact fin0
 have hc0 : ¬ chkV r ≠ 0 := by simpa using c0
 by_cases d0 : last < 0
 ·have hv : cloS r id' last s t = (zSta, zSta, 20) := by unfold cloS; rw [if_neg hc0, if_pos (.inl d0)]
  have d0n : ¬ 0 ≤ last := by omega
  rw [hv]
  simp [SSE, staC, zSta, c0, d0, d0n, -errV_0]
  refine finW _ (weak_nlB (o := 48) (k := 3) 36 rfl rfl) (finW _ (weak_nlB (o := 48) (k := 4) 3 rfl rfl) (finW _ (weak_nlB (o := 64) (k := 3) 36 rfl rfl) (finW _ (weak_nlB (o := 64) (k := 4) 3 rfl rfl) ?_)))
  exact fin0
 have d0p : 0 ≤ last := by omega
 by_cases d1 : r.am < last
 ·have hv : cloS r id' last s t = (zSta, zSta, 20) := by unfold cloS; rw [if_neg hc0, if_pos (.inr d1)]
  rw [hv]
  simp [SSE, staC, zSta, c0, d0, d0p, d1, e79, l0, iC, -errV_0]
  refine finW _ (weak_nlB (o := 48) (k := 3) 36 rfl rfl) (finW _ (weak_nlB (o := 48) (k := 4) 3 rfl rfl) (finW _ (weak_nlB (o := 64) (k := 3) 36 rfl rfl) (finW _ (weak_nlB (o := 64) (k := 4) 3 rfl rfl) ?_)))
  exact fin0
 have d1p : last ≤ r.am := by omega
 have hw : i64 (r.am - last) := by
  have := hr.2.2.2.2.2.1
  unfold i64 at this ⊢
  omega
 simp [c0, d0, d0p, d1, d1p, e79, l0, t0, iC, -errV_0]
 refine call0 (Vholds_ok r s id' hr hs) (by simp [RVv, SV, staC, I]) ?_
 rintro y H' ⟨rfl, rfl⟩
 refine ⟨.inl (by simp), le_ok rfl, ?_⟩
 cases p0 : hasV r s id' with
 | false =>
  have hv : cloS r id' last s t = (zSta, zSta, 8) := by unfold cloS; rw [if_neg hc0, if_neg (by omega), if_pos (.inl p0)]
  rw [hv]
  simp [SSE, staC, zSta, -errV_0]
  refine finW _ (weak_nlB (o := 48) (k := 3) 36 rfl rfl) (finW _ (weak_nlB (o := 48) (k := 4) 3 rfl rfl) (finW _ (weak_nlB (o := 64) (k := 3) 36 rfl rfl) (finW _ (weak_nlB (o := 64) (k := 4) 3 rfl rfl) ?_)))
  exact fin0
 | true =>
 simp [l0, t0, -errV_0]
 refine call0 (Vholds_ok r t id' hr ht) (by simp [RVv, SV, staC, I]) ?_
 rintro y H' ⟨rfl, rfl⟩
 refine ⟨.inl (by simp), le_ok rfl, ?_⟩
 cases p1 : hasV r t id' with
 | false =>
  have hv : cloS r id' last s t = (zSta, zSta, 8) := by unfold cloS; rw [if_neg hc0, if_neg (by omega), if_pos (.inr p1)]
  rw [hv]
  simp [SSE, staC, zSta, -errV_0]
  refine finW _ (weak_nlB (o := 48) (k := 3) 36 rfl rfl) (finW _ (weak_nlB (o := 48) (k := 4) 3 rfl rfl) (finW _ (weak_nlB (o := 64) (k := 3) 36 rfl rfl) (finW _ (weak_nlB (o := 64) (k := 4) 3 rfl rfl) ?_)))
  exact fin0
 | true =>
 have hv0 : cloS r id' last s t = if (freV r s id' (sid r.f.k0 r.f.k1 r.a) last).2 ≠ 0 then (zSta, zSta, (freV r s id' (sid r.f.k0 r.f.k1 r.a) last).2) else if (freV r t id' (sid r.s.k0 r.s.k1 r.b) last).2 ≠ 0 then (zSta, zSta, (freV r t id' (sid r.s.k0 r.s.k1 r.b) last).2) else ((freV r s id' (sid r.f.k0 r.f.k1 r.a) last).1, (freV r t id' (sid r.s.k0 r.s.k1 r.b) last).1, 0) := by
  unfold cloS
  rw [if_neg hc0, if_neg (by omega), if_neg (by rw [p0, p1]; simp)]
 have hf1 := Vfree_ok r s id' (sid r.f.k0 r.f.k1 r.a) last hr hs hi hla hw
 have hf2 := Vfree_ok r t id' (sid r.s.k0 r.s.k1 r.b) last hr ht hi hla hw
 obtain ⟨A, hA⟩ : ∃ A, freV r s id' (sid r.f.k0 r.f.k1 r.a) last = A := ⟨_, rfl⟩
 obtain ⟨B, hB⟩ : ∃ B, freV r t id' (sid r.s.k0 r.s.k1 r.b) last = B := ⟨_, rfl⟩
 rw [hA] at hf1 hv0
 rw [hB] at hf2 hv0
 obtain ⟨Q, hQ⟩ : ∃ Q, cloS r id' last s t = Q := ⟨_, rfl⟩
 rw [hQ] at hv0 ⊢
 simp [l0, t0, -errV_0]
 refine call0 (Vsides_ok r hr) (by simp [RVv]) ?_
 rintro y H' ⟨rfl, rfl⟩
 refine ⟨.inl (by simp [iC]), le_ok rfl, ?_⟩
 simp [iC, l0, t0, -errV_0]
 refine call0 hf1 (by simp [RVv, SV, staC, I]) ?_
 rintro y H' ⟨rfl, rfl⟩
 refine ⟨.inl (by simp), le_ok rfl, ?_⟩
 by_cases c1 : A.2 = 0
 rotate_left
 ·rw [if_pos c1] at hv0
  rw [hv0]
  simp [SE, SSE, staC, zSta, c1, -errV_0]
  refine finW _ (weak_nlB (o := 48) (k := 3) 36 rfl rfl) (finW _ (weak_nlB (o := 48) (k := 4) 3 rfl rfl) (finW _ (weak_nlB (o := 64) (k := 3) 36 rfl rfl) (finW _ (weak_nlB (o := 64) (k := 4) 3 rfl rfl) ?_)))
  exact fin0
 rw [if_neg (by simpa using c1)] at hv0
 simp [SE, staC, c1, l0, t0, -errV_0]
 refine call0 hf2 (by simp [RVv, SV, staC, I]) ?_
 rintro y H' ⟨rfl, rfl⟩
 refine ⟨.inl (by simp), le_ok rfl, ?_⟩
 by_cases c2 : B.2 = 0
 rotate_left
 ·rw [if_pos c2] at hv0
  rw [hv0]
  simp [SE, SSE, staC, zSta, c2, -errV_0]
  refine finW _ (weak_nlB (o := 48) (k := 3) 36 rfl rfl) (finW _ (weak_nlB (o := 48) (k := 4) 3 rfl rfl) (finW _ (weak_nlB (o := 64) (k := 3) 36 rfl rfl) (finW _ (weak_nlB (o := 64) (k := 4) 3 rfl rfl) ?_)))
  exact fin0
 rw [if_neg (by simpa using c2)] at hv0
 rw [hv0]
 simp [SE, SSE, staC, c2, -errV_0]
 exact fin0
def yloc : UL | _ => [xD 0 3 5 1, xO 1 4 (.call 130 [.t 3]), xQ 2 5 (.un .not (.t 4))]
def ybog : UB | _ => .seq (reg0 [xW 0 1 49 0, xQ 1 2 (.mov (.k .nilIface))] 2) (.seq (.seq (reg0 (hid yloc) 3) (.cond (.t 5) (.seq (reg0 [xQ 0 6 (.mki 132 (xK 1)), xM 1 2 6] 2) .ret) .skip)) (.seq (reg0 [xQ 0 2 (.mov (.k .nilIface))] 1) .ret))
attribute [simp] yloc ybog
def c_SCheck : EB × List QOp × Nat := ((hid ybog), [(.mov (.t 2))], 7)
theorem k_SCheck : cfun Tryz.prog 134 = some c_SCheck := by kernel_rfl
theorem SCheck_ok (s : Sta) (hs : s.ok) : ECalls Tryz.prog 134 [SV s] [] fun y H' => H' = [] ∧ y = .lit (if mayS s then .nilIface else errV 1) := by
 refine ecalls k_SCheck ?_
 simp [c_SCheck, SV, staC]
 refine call0 (Smay_ok s hs) (by simp [Ptr, I, EV.lit, SV, staC, SE]) ?_
 rintro y H' ⟨rfl, rfl⟩
 refine ⟨.inl (by simp [Ptr, I, EV.lit, SV, staC, SE]), le_ok rfl, ?_⟩
 simp [Ptr, I, EV.lit, SV, staC, SE]
 cases hm : mayS s
 ·simp
  exact fin0
 ·simp
  exact fin0
def yloi : UL | _ => [xQ 6 1 (.alloc 44 (zU8 ++ (([xZ, xZ, xZ, xZ, xZ, xZ] : List Value) ++ zU8 ++ [xZ, xZ, xZ, xZ, xZ, xZ, xZ, xZ, xZ, xZ, xZ]))), xN 7 (.sto 81 (.t 1) (.t 13))]
def yloj : UL | _ => xQ 0 8 (.build [xZ, xZ] [(0, 1, (xK 1)), (1, 1, (xK 2))]) :: xQ 1 9 (.build (zU8 ++ [xZ, xZ, xZ, xZ, xZ, xZ]) [(34, 2, .t 8)]) :: xQ 2 10 (.build [xZ, xZ] [(0, 1, (xK 2)), (1, 1, (xK 3))]) :: xQ 3 11 (.build (zU8 ++ [xZ, xZ, xZ, xZ, xZ, xZ]) [(34, 2, .t 10)]) :: xQ 4 12 (.build [xZ, xZ, xZ] [(0, 1, (xK 1)), (1, 1, (xK 2)), (2, 1, (xK 3))]) :: xQ 5 13 (.build (zU8 ++ (([xZ, xZ, xZ, xZ, xZ, xZ] : List Value) ++ zU8 ++ [xZ, xZ, xZ, xZ, xZ, xZ, xZ, xZ, xZ, xZ, xZ])) [(0, 38, .t 9), (38, 38, .t 11), (76, 3, .t 12), (79, 1, (xK 50))]) :: hid yloi
def ylok : UL | _ => [xN 12 (.fz (.sto 5 (.t 2) (.t 21))), xN 13 (.fz (.sto 5 (.t 3) (.t 22))), xM 14 4 23]
def ylol : UL | _ => xM 6 14 20 :: xX 7 21 0 14 :: xX 8 22 1 14 :: xX 9 23 2 14 :: xQ 10 2 (.alloc 49 [xZ, xZ, xZ, xS, xS]) :: xQ 11 3 (.alloc 49 [xZ, xZ, xZ, xS, xS]) :: hid ylok
def ylom : UL | _ => xD 0 15 81 1 :: xQ 1 16 (.build [xZ, xZ] [(0, 1, (xK 100)), (1, 1, (xK 0))]) :: xQ 2 17 (.build [xZ, xZ, xZ, xS, xS] [(1, 2, .t 16)]) :: xQ 3 18 (.build [xZ, xZ] [(0, 1, (xK 100)), (1, 1, (xK 0))]) :: xQ 4 19 (.build [xZ, xZ, xZ, xS, xS] [(1, 2, .t 18)]) :: xO 5 20 (.call 10 [.t 15, (xK 7), .t 17, .t 19]) :: hid ylol
def ylon : UL | _ => [xM 12 7 31]
def yloo : UL | _ => xX 6 30 1 24 :: xX 7 31 2 24 :: xQ 8 5 (.alloc 49 [xZ, xZ, xZ, xS, xS]) :: xQ 9 6 (.alloc 49 [xZ, xZ, xZ, xS, xS]) :: xN 10 (.fz (.sto 5 (.t 5) (.t 29))) :: xN 11 (.fz (.sto 5 (.t 6) (.t 30))) :: hid ylon
def ylop : UL | _ => xD 0 25 81 1 :: xD 1 26 5 2 :: xD 2 27 5 3 :: xO 3 28 (.call 17 [.t 25, (xK 7), (xK 20), .t 26, .t 27]) :: xM 4 24 28 :: xX 5 29 0 24 :: hid yloo
def yloq : UL | _ => [xM 24 0 55]
def ylor : UL | _ => xM 18 50 49 :: yF 19 51 50 true 1 6 :: xG 20 52 50 true (.lda 2 (.t 51)) :: xG 21 53 50 true (.build [xZ, xZ] [(0, 1, (xK 80)), (1, 1, (xK 20))]) :: xG 22 54 50 true (.eqa false 2 .i64 (.t 52) (.t 53)) :: xR 23 55 50 54 :: hid yloq
def ylos : UL | _ => xM 12 44 43 :: yF 13 45 44 true 1 5 :: xG 14 46 44 true (.lda 2 (.t 45)) :: xG 15 47 44 true (.build [xZ, xZ] [(0, 1, (xK 80)), (1, 1, (xK 20))]) :: xG 16 48 44 true (.eqa false 2 .i64 (.t 46) (.t 47)) :: xR 17 49 44 48 :: hid ylor
def ylot : UL | _ => xM 6 38 37 :: yF 7 39 38 true 1 2 :: xG 8 40 38 true (.lda 2 (.t 39)) :: xG 9 41 38 true (.build [xZ, xZ] [(0, 1, (xK 50)), (1, 1, (xK 0))]) :: xG 10 42 38 true (.eqa false 2 .i64 (.t 40) (.t 41)) :: xR 11 43 38 42 :: hid ylos
def ylou : UL | _ => xM 0 32 4 :: xQ 1 33 (.eqi false (.t 32)) :: xM 2 34 33 :: yM 3 35 34 true 7 :: xG 4 36 34 true (.eqi false (.t 35)) :: xR 5 37 34 36 :: hid ylot
def ybow : UB | _ => .seq (reg0 [xQ 0 0 (.mov (.k (.bool false)))] 1) (.seq (reg0 (hid yloj) 8) (.seq (reg0 (hid ylom) 15) (.seq (reg0 (hid ylop) 13) (.seq (reg0 (hid ylou) 25) .ret))))
attribute [simp] yloi yloj ylok ylol ylom ylon yloo ylop yloq ylor ylos ylot ylou ybow
def c_sure : EB × List QOp × Nat := ((hid ybow), [(.mov (.t 0))], 56)
theorem k_sure : cfun Tryz.prog 8 = some c_sure := by kernel_rfl
theorem VV_nl {X : Cx} {e1 e2 : Nat} {a b c : EC} {u : Value} (h : VV X (.v (.agg [a, b, c, .fz (.lit (.slice none 0 0)), .fz (.lit (.slice none 0 0))])) u) : VV X (.v (.agg [a, b, c, .fz (.sl e1 []), .fz (.sl e2 [])])) u := by
 obtain ⟨vs, rfl, hv⟩ := h
 refine ⟨vs, rfl, by simpa using hv.1, ?_⟩
 intro i x y hx hy
 rcases i with _ | _ | _ | _ | _ | i
 ·exact hv.2 0 x y hx hy
 ·exact hv.2 1 x y hx hy
 ·exact hv.2 2 x y hx hy
 ·have := hv.2 3 _ y rfl hy
  simp at hx; subst hx
  exact nl_vr this
 ·have := hv.2 4 _ y rfl hy
  simp at hx; subst hx
  exact nl_vr this
 ·simp at hx
theorem ecalls_nl34 {P : Program} {f : FuncId} {e1 e2 e3 e4 : Nat} {a b c a' b' c' : EC} {x y : EV} {H : List EO} {post : EV → List (Option EO) → Prop} (h : ECalls P f [x, y, .v (.agg [a, b, c, .fz (.sl e1 []), .fz (.sl e2 [])]), .v (.agg [a', b', c', .fz (.sl e3 []), .fz (.sl e4 [])])] H post) :
  ECalls P f [x, y, .v (.agg [a, b, c, .fz (.lit (.slice none 0 0)), .fz (.lit (.slice none 0 0))]), .v (.agg [a', b', c', .fz (.lit (.slice none 0 0)), .fz (.lit (.slice none 0 0))])] H post := by
 intro ρ Φ w vals r ha
 refine h ρ Φ w vals r ?_
 obtain ⟨u, us, rfl, h1, h2⟩ := ha.cons_left
 obtain ⟨u2, us2, rfl, h3, h4⟩ := h2.cons_left
 obtain ⟨u3, us3, rfl, h5, h6⟩ := h4.cons_left
 obtain ⟨u4, us4, rfl, h7, h8⟩ := h6.cons_left
 exact All2.cons h1 (All2.cons h3 (All2.cons (VV_nl h5) (All2.cons (VV_nl h7) h8)))
def R0 : Rte := ⟨⟨hz, 0, 0, 1, 2, 0, 0⟩, ⟨hz, 0, 0, 2, 3, 0, 0⟩, 1, 2, 3, 50, 0⟩
theorem R0_ok : R0.ok := by simp [R0, Rte.ok, Prm.ok, i64, hz]
theorem s100_ok : (Sta.mk 0 100 0 [] []).ok := by simp [Sta.ok, i64]
theorem s50h_ok : (Sta.mk 1 50 0 [] [⟨7, 50, [1, 2, 3]⟩]).ok := by simp [Sta.ok, i64, Hol.ok]
theorem R0_open : opnS R0 7 ⟨0, 100, 0, [], []⟩ ⟨0, 100, 0, [], []⟩ = (⟨1, 50, 0, [], [⟨7, 50, [1, 2, 3]⟩]⟩, ⟨1, 50, 0, [], [⟨7, 50, [1, 2, 3]⟩]⟩, 0) := by kernel_rfl
theorem R0_close : cloS R0 7 20 ⟨1, 50, 0, [], [⟨7, 50, [1, 2, 3]⟩]⟩ ⟨1, 50, 0, [], [⟨7, 50, [1, 2, 3]⟩]⟩ = (⟨2, 80, 20, [], []⟩, ⟨2, 80, 20, [], []⟩, 0) := by kernel_rfl
set_option maxRecDepth 8000 in
theorem sure_ok : ECalls Tryz.prog 8 [] [] fun y H' => H' = [] ∧ y = .lit (.bool true) := by
 have hop := VOpen_ok R0 7 ⟨0, 100, 0, [], []⟩ ⟨0, 100, 0, [], []⟩ R0_ok (by simp [i64]) s100_ok s100_ok
 rw [R0_open] at hop
 have hop' : ECalls Tryz.prog 10 [RVv R0, I .i64 7, .v (.agg [iC 0, iC 100, iC 0, .fz (.lit (.slice none 0 0)), .fz (.lit (.slice none 0 0))]), .v (.agg [iC 0, iC 100, iC 0, .fz (.lit (.slice none 0 0)), .fz (.lit (.slice none 0 0))])] [] fun y H' => H' = [] ∧ y = SSE (⟨1, 50, 0, [], [⟨7, 50, [1, 2, 3]⟩]⟩, ⟨1, 50, 0, [], [⟨7, 50, [1, 2, 3]⟩]⟩, 0) := ecalls_nl34 (e1 := 36) (e2 := 3) (e3 := 36) (e4 := 3) hop
 have hcl := VClose_ok R0 7 20 ⟨1, 50, 0, [], [⟨7, 50, [1, 2, 3]⟩]⟩ ⟨1, 50, 0, [], [⟨7, 50, [1, 2, 3]⟩]⟩ R0_ok (by simp [i64]) (by simp [i64]) s50h_ok s50h_ok
 rw [R0_close] at hcl
 refine ecalls k_sure ?_
 simp [c_sure]
 refine call0 hop' (by kernel_rfl) ?_
 rintro y H' ⟨rfl, rfl⟩
 refine ⟨.inl (by kernel_rfl), le_ok rfl, ?_⟩
 simp [SSE, staC, -errV_0]
 refine call0 hcl (by kernel_rfl) ?_
 rintro y H' ⟨rfl, rfl⟩
 refine ⟨.inl (by kernel_rfl), le_ok rfl, ?_⟩
 simp [SSE, staC, -errV_0]
 exact fin0
end Go.Proofs.YtejjhgdnmknejaaGreatDoor
