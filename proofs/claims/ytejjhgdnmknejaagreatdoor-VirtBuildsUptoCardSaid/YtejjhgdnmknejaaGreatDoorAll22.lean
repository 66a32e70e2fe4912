import Derived.Test.YtejjhgdnmknejaaGreatDoorAll16
import Derived.Test.YtejjhgdnmknejaaGreatDoorAll19
import Derived.Test.YtejjhgdnmknejaaGreatDoorAll21
import Derived.Test.YtejjhgdnmknejaaGreatDoorAll18
import Derived.Test.YtejjhgdnmknejaaGreatDoorAll10
import Derived.Test.YtejjhgdnmknejaaGreatDoorAll15
import Derived.Test.YtejjhgdnmknejaaGreatDoorAll6
import Derived.Test.YtejjhgdnmknejaaGreatDoorAll8
set_option maxHeartbeats 64000000
namespace Go.Proofs.YtejjhgdnmknejaaGreatDoor
open Go Go.EW
set_option linter.unusedSimpArgs false
set_option linter.unusedVariables false
def yl1b6 : UL | _ => [xD 0 5 3 2, xO 1 6 (.call 38 [.t 5]), xM 2 7 1, xQ 3 8 (.build (zU8 ++ [xZ]) [(0, 32, .t 6), (32, 1, .t 7)]), xN 4 (.sto 33 (.t 4) (.t 8))]
def yb1b7 : UB | _ => .seq (reg0 [xW 0 2 71 0, xQ 1 4 (.alloc 40 (zU8 ++ [xZ]))] 2) (.seq (reg0 (hid yl1b6) 5) .ret)
attribute [simp] yl1b6 yb1b7
def c_TxAt : EB × List QOp × Nat := ((hid yb1b7), [(.lda 33 (.t 4))], 9)
theorem k_TxAt : cfun Tryz.prog 29 = some c_TxAt := by kernel_rfl
def yl1bc : UL | _ => [xD 0 11 2 3, xM 1 12 0, xM 2 13 5, xI 3 14 2 12 13, xD 4 15 2 14, xQ 5 16 (.eqw false [(2, .i64)] (.t 11) (.t 15))]
def yb1bh : UB | _ => .seq (reg0 [xb 0 9 .lss 8 7] 1) (.seq (.cond (.t 9) .skip (.exit 0)) (.seq (.block 1 (.seq (reg0 [xM 0 10 8, xM 1 5 10] 2) (.seq (reg0 (hid yl1bc) 6) (.cond (.t 16) (.seq (reg0 [xM 0 17 5, xM 1 4 17] 2) .ret) .skip)))) (reg0 [xc 0 18 .add 8 1, xM 1 8 18] 2)))
def yb1bj : UB | _ => .seq (.seq (reg0 [xM 0 6 0, xE 1 7 6, xC 2 8 0] 3) (.block 0 (.loop (hid yb1bh)))) (.seq (reg0 [xQ 0 4 (.mov (.k (.int .i64 (-1))))] 1) .ret)
def yb1bk : UB | _ => .seq (reg0 [xW 0 3 166 1, xC 1 4 0] 2) (hid yb1bj)
attribute [simp] yl1bc yb1bh yb1bj yb1bk
def c_IdxP : EB × List QOp × Nat := ((hid yb1bk), [(.mov (.t 4))], 19)
theorem k_IdxP : cfun Tryz.prog 64 = some c_IdxP := by kernel_rfl
def yl1bl : UL | _ => [xW 0 5 42 0, xW 1 6 49 1, xW 2 8 23 3, xQ 3 10 (.alloc 40 (zU8 ++ [xZ])), xQ 4 11 (.mov (.k .nilIface))]
def yl1bm : UL | _ => [xX 6 22 0 16, xX 7 23 1 16, xQ 8 12 (.alloc 71 [xZ, xS, xS]), xN 9 (.fz (.sto 3 (.t 12) (.t 22))), xM 10 13 23]
def yl1bn : UL | _ => xD 0 17 38 5 :: xD 1 18 5 6 :: xM 2 19 2 :: xD 3 20 32 8 :: xO 4 21 (.call 32 [.t 17, .t 18, .t 19, .t 20]) :: xM 5 16 21 :: hid yl1bm
def yl1bp : UL | _ => [xQ 0 26 (.build (zU8 ++ [xZ]) []), xM 1 27 13, xN 2 (.sto 33 (.t 10) (.t 26)), xM 3 11 27]
def yl1br : UL | _ => [xX 6 34 1 28, xM 7 14 33, xM 8 13 34]
def yl1bs : UL | _ => xD 0 29 38 5 :: xD 1 30 5 6 :: xM 2 31 2 :: xO 3 32 (.call 63 [.t 29, .t 30, .t 31]) :: xM 4 28 32 :: xX 5 33 0 28 :: hid yl1br
def yl1bu : UL | _ => [xQ 0 37 (.build (zU8 ++ [xZ]) []), xM 1 38 13, xN 2 (.sto 33 (.t 10) (.t 37)), xM 3 11 38]
def yl1bw : UL | _ => [xM 0 39 14, xM 1 40 4, xQ 2 41 (.build [xZ, xZ] [(0, 1, (xK 4)), (1, 1, .t 40)]), xO 3 42 (.call 64 [.t 39, .t 41]), xM 4 15 42]
def yl1by : UL | _ => [xQ 0 45 (.build (zU8 ++ [xZ]) []), xQ 1 46 (.mki 132 (xK 8)), xN 2 (.sto 33 (.t 10) (.t 45)), xM 3 11 46]
def yl1c0 : UL | _ => [xD 0 47 3 12, xM 1 48 15, xO 2 49 (.call 29 [.t 47, .t 48]), xN 3 (.sto 33 (.t 10) (.t 49)), xQ 4 11 (.mov (.k .nilIface))]
def yb1c1 : UB | _ => .seq (reg0 (hid yl1bw) 5) (.seq (.seq (reg0 [xM 0 43 15, xc 1 44 .lss 43 0] 2) (.cond (.t 44) (.seq (reg0 (hid yl1by) 4) .ret) .skip)) (.seq (reg0 (hid yl1c0) 5) .ret))
def yb1c2 : UB | _ => .seq (.seq (reg0 [xM 0 24 13, xQ 1 25 (.eqi true (.t 24))] 2) (.cond (.t 25) (.seq (reg0 (hid yl1bp) 4) .ret) .skip)) (.seq (reg0 (hid yl1bs) 9) (.seq (.seq (reg0 [xM 0 35 13, xQ 1 36 (.eqi true (.t 35))] 2) (.cond (.t 36) (.seq (reg0 (hid yl1bu) 4) .ret) .skip)) (hid yb1c1)))
def yb1c3 : UB | _ => .seq (reg0 (hid yl1bl) 5) (.seq (reg0 (hid yl1bn) 11) (hid yb1c2))
attribute [simp] yl1bl yl1bm yl1bn yl1bp yl1br yl1bs yl1bu yl1bw yl1by yl1c0 yb1c1 yb1c2 yb1c3
def c_VAt : EB × List QOp × Nat := ((hid yb1c3), [(.lda 33 (.t 10)), (.mov (.t 11))], 50)
theorem k_VAt : cfun Tryz.prog 25 = some c_VAt := by kernel_rfl
def yl1c4 : UL | _ => [xW 0 2 44 0, xW 1 3 71 1, xQ 2 4 (.alloc 42 (zU8 ++ [xZ, xZ, xZ, xZ, xZ, xZ])), xQ 3 5 (.mov (.k .nilIface))]
def yl1c7 : UL | _ => [xQ 0 12 (.build (zU8 ++ [xZ, xZ, xZ, xZ, xZ, xZ]) []), xM 1 13 6, xN 2 (.sto 38 (.t 4) (.t 12)), xM 3 5 13]
def yl1c9 : UL | _ => [xQ 11 25 (.build (zU8 ++ [xZ, xZ, xZ, xZ, xZ, xZ]) [(0, 33, .t 15), (33, 1, .t 17), (34, 2, .t 24)]), xN 13 (.sto 38 (.t 7) (.t 25))]
def yl1ca : UL | _ => xF 7 21 76 2 :: xQ 8 22 (.iad 3 1 (.t 21) (xK 2)) :: xL 9 23 22 :: xQ 10 24 (.build [xZ, xZ] [(0, 1, .t 20), (1, 1, .t 23)]) :: xQ 12 7 (.alloc 42 (zU8 ++ [xZ, xZ, xZ, xZ, xZ, xZ])) :: ⟨1, (some 15), none, (.call 29 [.t 14, (xK 0)]), [2, 3, 4, 5, 6, 7, 8, 9, 10, 12]⟩ :: hid yl1c9
def yl1cb : UL | _ => xD 0 14 3 3 :: xF 2 16 79 2 :: xL 3 17 16 :: xF 4 18 76 2 :: xQ 5 19 (.iad 3 1 (.t 18) (xK 0)) :: xL 6 20 19 :: hid yl1ca
def yl1cc : UL | _ => [xF 6 32 36 7, ⟨7, none, none, (.sto 1 (.t 32) (.t 28)), [3, 4, 5]⟩, xF 8 33 37 7, xN 9 (.sto 1 (.t 33) (.t 31))]
def yl1cd : UL | _ => xF 0 26 0 2 :: xF 1 27 36 26 :: xL 2 28 27 :: xF 3 29 0 2 :: xF 4 30 37 29 :: xL 5 31 30 :: hid yl1cc
def yl1ce : UL | _ => [xD 0 34 38 7, xN 1 (.sto 38 (.t 4) (.t 34)), xQ 2 5 (.mov (.k .nilIface))]
def yb1cf : UB | _ => .seq (reg1 (hid yl1cb) 14) (.seq (reg1 (hid yl1cd) 10) (.seq (reg0 (hid yl1ce) 3) .ret))
def yb1cg : UB | _ => .seq (reg0 (hid yl1c4) 4) (.seq (.seq (reg0 [xD 0 8 81 2, xO 1 9 (.call 15 [.t 8]), xM 2 6 9] 3) (.seq (reg0 [xM 0 10 6, xQ 1 11 (.eqi true (.t 10))] 2) (.cond (.t 11) (.seq (reg0 (hid yl1c7) 4) .ret) .skip))) (hid yb1cf))
attribute [simp] yl1c4 yl1c7 yl1c9 yl1ca yl1cb yl1cc yl1cd yl1ce yb1cf yb1cg
def c_VPar : EB × List QOp × Nat := ((hid yb1cg), [(.lda 38 (.t 4)), (.mov (.t 5))], 35)
theorem k_VPar : cfun Tryz.prog 28 = some c_VPar := by kernel_rfl
def yl1ch : UL | _ => [xW 0 5 28 0, xW 1 6 35 1, xW 2 8 23 3, xQ 3 10 (.alloc 25 (zU8 ++ [xZ])), xC 4 11 0]
def yl1ci : UL | _ => [xX 6 23 0 17, xX 7 24 1 17, xQ 8 12 (.alloc 77 [xZ, xS, xS]), xN 9 (.fz (.sto 3 (.t 12) (.t 23))), xM 10 13 24]
def yl1cj : UL | _ => xD 0 18 38 5 :: xD 1 19 5 6 :: xM 2 20 2 :: xD 3 21 32 8 :: xO 4 22 (.call 65 [.t 18, .t 19, .t 20, .t 21]) :: xM 5 17 22 :: hid yl1ci
def yl1cl : UL | _ => [xQ 0 27 (.build (zU8 ++ [xZ]) []), xM 1 28 13, xN 2 (.sto 33 (.t 10) (.t 27)), xM 3 11 28]
def yl1cn : UL | _ => [xX 6 35 1 29, xM 7 14 34, xM 8 15 35]
def yl1co : UL | _ => xD 0 30 38 5 :: xD 1 31 5 6 :: xM 2 32 2 :: xO 3 33 (.call 66 [.t 30, .t 31, .t 32]) :: xM 4 29 33 :: xX 5 34 0 29 :: hid yl1cn
def yl1cr : UL | _ => [yM 12 54 48 true 4, xG 13 55 48 true (.bin .eql (.t 53) (.t 54)), xR 14 56 48 55]
def yl1cs : UL | _ => xM 6 48 47 :: yM 7 49 48 true 14 :: yM 8 50 48 true 16 :: xG 9 51 48 true (.isl 2 (.t 49) (.t 50)) :: yF 10 52 48 true 1 51 :: yL 11 53 48 true 52 :: hid yl1cr
def yl1ct : UL | _ => xM 0 42 14 :: xM 1 43 16 :: xI 2 44 2 42 43 :: xF 3 45 0 44 :: xL 4 46 45 :: xc 5 47 .eql 46 4 :: hid yl1cs
def yl1cu : UL | _ => [xD 0 57 3 12, xO 1 58 (.call 67 [.t 57]), xM 2 59 16, xQ 3 60 (.build (zU8 ++ [xZ]) [(0, 32, .t 58), (32, 1, .t 59)]), xN 4 (.sto 33 (.t 10) (.t 60)), xC 5 11 0]
def yb1cx : UB | _ => .seq (.seq (reg0 [xM 0 36 16, xM 1 37 14, xE 2 38 37, xb 3 39 .lss 36 38] 4) (.cond (.t 39) .skip (.exit 0))) (.seq (.block 1 (.seq (reg0 (hid yl1ct) 15) (.cond (.t 56) (.seq (reg0 (hid yl1cu) 6) .ret) .skip))) (reg0 [xM 0 40 16, xc 1 41 .add 40 1, xM 2 16 41] 3))
def yl1cy : UL | _ => [xQ 0 61 (.build (zU8 ++ [xZ]) []), xN 1 (.sto 33 (.t 10) (.t 61)), xC 2 11 8]
def yb1d1 : UB | _ => .seq (reg0 (hid yl1ch) 5) (.seq (reg0 (hid yl1cj) 11) (.seq (.seq (reg0 [xM 0 25 13, xc 1 26 .neq 25 0] 2) (.cond (.t 26) (.seq (reg0 (hid yl1cl) 4) .ret) .skip)) (.seq (reg0 (hid yl1co) 9) (.seq (.seq (reg0 [xC 0 16 0] 1) (.block 0 (.loop (hid yb1cx)))) (.seq (reg0 (hid yl1cy) 3) .ret)))))
attribute [simp] yl1ch yl1ci yl1cj yl1cl yl1cn yl1co yl1cr yl1cs yl1ct yl1cu yb1cx yl1cy yb1d1
def c_RAt : EB × List QOp × Nat := ((hid yb1d1), [(.lda 33 (.t 10)), (.mov (.t 11))], 62)
theorem k_RAt : cfun Tryz.prog 27 = some c_RAt := by kernel_rfl
theorem cmt_0 {p : Prm} {s : Sta} {o : Int} {lock : List UInt8} (h : (cmtS p s o lock).2 = 0) : bldE p s = 0 ∧ (o = 0 ∨ o = 1) ∧ (cmtS p s o lock).1 = cmtT p s o lock := by
 unfold cmtS at h ⊢
 split at h
 ·rename_i c; exact absurd h c
 rename_i c
 split at h
 ·simp at h
 rename_i c2
 have c := Classical.not_not.1 c
 have ho : o = 0 ∨ o = 1 := by
  refine Classical.not_not.1 fun q => c2 (.inl q)
 rw [if_neg (by simpa using c), if_neg c2]
 refine ⟨c, ho, ?_⟩
 unfold donT at h ⊢
 split at h
 ·rename_i c3; exact absurd h c3
 ·rename_i c3
  rw [if_neg c3]
theorem cmt_small {p : Prm} {s : Sta} {o : Int} {lock : List UInt8} (hp : p.ok) (hs : s.ok) (hl : lock.length = 32) (h : bldE p s = 0) : (encT (cmtT p s o lock)).length ≤ 100000000 := by
 have hm := outsB_sm (p := p) (o := o) hs hl h
 have hn := (outsB_ok (o := o) hp hs hl h).2
 have h1 := uB_len 0
 have h2 := uB_len p.n
 have h3 := uB_len 1
 have h4 : (ousB (outsB p s o lock)).length ≤ 930000 * (outsB p s o lock).length := flat_len fun x hx => oupB_le (hm x hx)
 have h5 := uB_len ((outsB p s o lock).length : Int)
 have h6 := hp.1
 have h7 := stuff_len ([] : List UInt8)
 simp only [encT, mdB, hdB, cmtT, insB, List.flatMap_cons, List.flatMap_nil, inpB, bytesB, List.length_append, List.length_cons, List.length_nil, List.append_nil] at *
 have h8 : uB ((0 + 1 : Nat) : Int) = uB 1 := rfl
 rw [h8]
 omega
def ixP (q : Int × Int) : List (Int × Int) → Nat → Option Nat
 | [], _ => none
 | x :: r, i => if x = q then some i else ixP q r (i + 1)
theorem ixP_lt {q : Int × Int} : ∀ (l : List (Int × Int)) (j i : Nat), ixP q l j = some i → i < j + l.length
 | [], j, i, h => by simp [ixP] at h
 | x :: r, j, i, h => by
  unfold ixP at h
  split at h
  ·simp at h; subst h; simp
  ·have := ixP_lt r _ _ h; simp; omega
def atS (p : Prm) (s : Sta) (o : Int) (lock : List UInt8) (d : Int) : Pt × Nat :=
 if (cmtS p s o lock).2 ≠ 0 then ((hz, 0), (cmtS p s o lock).2) else
  match ixP (4, d) (plcB p s o) 0 with
  | none => ((hz, 0), 8)
  | some i => ((sumS (encT (cmtS p s o lock).1), (i : Int)), 0)
def prmS (r : Rte) (t : Txn) : Prm := ⟨sumS (encT t), 0, r.am, r.a, r.c, r.f.dl, r.f.fe⟩
def zPrm : Prm := ⟨hz, 0, 0, 0, 0, 0, 0⟩
theorem TxAt_ok (t : Txn) (i : Int) (ht : t.ok) (hse : ∀ x ∈ t.ins, x.sec = []) (hs : (encT t).length ≤ 100000000) : ECalls Tryz.prog 29 [TXv t, I .i64 i] [] fun y H' => H' = [] ∧ y = PtV (sumS (encT t), i) := by
 have hl := sumS_len (encT t)
 have hst : List.take 32 (sumS (encT t)) = sumS (encT t) := List.tkL (by omega)
 have d33 : ∀ a : EC, List.drop 33 (hc (sumS (encT t)) ++ [a]) = [] := fun a => by rw [List.drop_eq_nil_iff]; simp [hl]
 have d32 : List.drop 32 (hc hz) = [] := rfl
 have z33 : ∀ a : EC, List.drop 33 (hc hz ++ [a]) = [] := fun a => by rw [List.drop_eq_nil_iff]; simp [hz]
 refine ecalls k_TxAt ?_
 simp [c_TxAt, TXv, txC, I, iC]
 refine call0 (TxID_ok t ht hse hs) (by simp [TXv, txC, iC]) ?_
 rintro y H' ⟨rfl, rfl⟩
 refine ⟨.inl (by simp), le_ok rfl, ?_⟩
 simp [hl, hst, d33, d32, z33]
 exact fin0
theorem litK_2 {a b : Int} (ha : i64 a) (hb : i64 b) : litK (unrle [(2, .i64)]) [.fz (.lit (.int .i64 a)), .fz (.lit (.int .i64 b))] = some [a, b] := by simp [unrle, litK, wf_i64 ha, wf_i64 hb]
theorem plcB_i64 {p : Prm} {s : Sta} {o : Int} (hs : s.ok) : ∀ q ∈ plcB p s o, i64 q.1 ∧ i64 q.2 := by
 obtain ⟨ok1, ok2, ok3, ok4, ok5, ok6, ok7⟩ := id hs
 intro q hq
 unfold plcB at hq
 simp only [List.mem_append] at hq
 rcases hq with (hq | hq) | (hq | hq)
 ·unfold plc1 at hq
  split at hq
  ·simp at hq; subst hq; simp [i64]
  ·simp at hq
 ·unfold plc2 at hq
  split at hq
  ·simp at hq; subst hq; simp [i64]
  ·simp at hq
 ·obtain ⟨y, hy, rfl⟩ := List.mem_map.1 hq
  exact ⟨by simp [i64], (ok4 y hy).1⟩
 ·obtain ⟨y, hy, rfl⟩ := List.mem_map.1 hq
  exact ⟨by simp [i64], (ok5 y hy).1⟩
section
variable {L : List UInt8} (h : L.length = 32) (r : List EC)
include h
theorem tkn (k : Nat) : List.take (32 + k) (hc L ++ r) = hc L ++ List.take k r := by
 have e : (hc L).length = 32 := by rw [hc_len, h]
 rw [List.take_append, List.tkL (by omega), e, Nat.add_sub_cancel_left]
theorem drn (k : Nat) : List.drop (32 + k) (hc L ++ r) = List.drop k r := by
 have e : (hc L).length = 32 := by rw [hc_len, h]
 rw [List.drop_append, List.drop_of_length_le (by omega), e, Nat.add_sub_cancel_left]; rfl
end
theorem IdxP_ok (l : List (Int × Int)) (q : Int × Int) (hn : l.length ≤ 1000) (hq : i64 q.1 ∧ i64 q.2) (hl : ∀ x ∈ l, i64 x.1 ∧ i64 x.2) : ECalls Tryz.prog 64 [.v (.c (.fz (.sl 2 (plcv l)))), .v (.agg [iC q.1, iC q.2])] [] fun y H' => H' = [] ∧ y = I .i64 (match ixP q l 0 with | none => -1 | some i => (i : Int)) := by
 obtain ⟨F, hF⟩ : ∃ F, ixP q l 0 = F := ⟨_, rfl⟩
 rw [hF]
 refine ecalls k_IdxP ?_
 simp [c_IdxP, I, iC]
 refine eloop (α := Nat) (fun i => i ≤ l.length ∧ ixP q (l.drop i) i = F) (fun i => l.length - i)
  (fun i => [.v (.c (.fz (.sl 2 (plcv l)))), xA, xA, Ptr 0, xA, xA, xA, I .i64 l.length, I .i64 i, xA, xA, xA, xA, xA, xA, xA, xA, xA, .any]) (fun _ => [some (.box 166 [iC q.1, iC q.2])]) 0 [0]
  ⟨Nat.zero_le _, by simpa using hF⟩ (by simp [I, Ptr]) (by simp [iC]) (by simp) (by simp) (by simp) ?_
 rintro i ⟨hi, hi2⟩
 simp [I, Ptr, iC]
 refine alt (fun hlt => ?_) (fun hlt => ?_)
 ·have hln : i < l.length := by omega
  obtain ⟨⟨xk, xi⟩, hcx⟩ : ∃ x, l[i]? = some x := ⟨l[i], by simp [hln]⟩
  have hge : (plcv l)[i]'(by simp [hln]) = plcF (xk, xi) := by
   have e : (plcv l)[i]? = some (plcF (xk, xi)) := by simp [plcv, hcx]
   rw [List.getElem?_eq_getElem (by simp [hln])] at e
   exact Option.some.inj e
  have w1 := wS (i := i) (by omega)
  rw [drop_cons hcx] at hi2
  unfold ixP at hi2
  obtain ⟨qk, qi⟩ := q
  have k1 := litK_2 hq.1 hq.2
  have hxo := hl _ (List.mgE hcx)
  have k2 := litK_2 hxo.1 hxo.2
  dsimp only at k1 k2
  by_cases e : xk = qk ∧ xi = qi
  ·obtain ⟨rfl, rfl⟩ := e
   rw [if_pos rfl] at hi2
   rw [← hi2]
   simp [hln, hge, plcF, iF, k1]
   exact fin0
  ·have e' : ¬ (qk = xk ∧ qi = xi) := fun h => e ⟨h.1.symm, h.2.symm⟩
   rw [if_neg (by simpa using e)] at hi2
   simp [hln, hge, plcF, iF, k1, k2]
   refine alt (fun q => absurd q (by simpa using e')) (fun _ => ?_)
   simp [w1, -Int.natCast_add]
   exact round (i + 1) [0] ⟨by omega, hi2⟩ (by omega) (by simp [I, Ptr]) (by simp [iC]) (by simp) (by simp) (by simp)
 ·have hd : l.drop i = [] := by rw [List.drop_eq_nil_iff]; omega
  rw [hd] at hi2
  rw [← hi2]
  simp [ixP]
  exact fin0
set_option maxRecDepth 8000 in
theorem VAt_ok (p : Prm) (s : Sta) (o d : Int) (lock : List UInt8) (hp : p.ok) (hs : s.ok) (hl : lock.length = 32) (hd : i64 d) : ECalls Tryz.prog 25 [PVv p, SV s, I .i64 o, .v (.agg (hc lock)), I .i64 d] [] fun y H' => H' = [] ∧ y = .tup [.agg (ptC (atS p s o lock d).1), .c (.fz (.lit (errV (atS p s o lock d).2)))] := by
 have h1 := hp.1
 have lp := prmC_len h1
 have tp := pm_take h1
 have hlt : List.take 32 lock = lock := List.tkL (by omega)
 have t32 := hc_t32 hl
 refine ecalls k_VAt ?_
 simp [c_VAt, PVv, SV, staC, I, lp, tp, iC, hl, hlt, t32, -errV_0]
 refine call0 (BCommit_ok p s o lock hp hs hl) (by simp [PVv, SV, staC, I]) ?_
 rintro y H' ⟨rfl, rfl⟩
 refine ⟨.inl (by simp), le_ok rfl, ?_⟩
 by_cases c : (cmtS p s o lock).2 = 0
 rotate_left
 ·rw [show atS p s o lock d = ((hz, 0), (cmtS p s o lock).2) from if_pos c]
  simp [c, txC, iC, -errV_0]
  exact fin0
 obtain ⟨c1, c2, c3⟩ := cmt_0 c
 obtain ⟨d1, d2⟩ := outsB_ok (o := o) hp hs hl c1
 have hpl : (plcB p s o).length ≤ 20 := by
  have e : (plcB p s o).length = (outsB p s o lock).length := by
   unfold plcB outsB plc1 plc2 out1 out2 plcP plcH outP outH
   simp only [List.length_append, List.length_map]
   split <;> split <;> rfl
  omega
 have hP := BPlaces_ok p s o hp hs
 rw [show plcS p s o = (plcB p s o, 0) by unfold plcS; rw [if_neg (by simpa using c1), if_neg (fun q => q c2)]] at hP
 have hI := IdxP_ok (plcB p s o) (4, d) (by omega) ⟨by simp [i64], hd⟩ (plcB_i64 hs)
 have hT := fun i => TxAt_ok (cmtT p s o lock) i (cmtT_ok hp hs hl c1) (by intro x hx; simp [cmtT] at hx; subst hx; rfl) (cmt_small hp hs hl c1)
 rw [show atS p s o lock d = (match ixP (4, d) (plcB p s o) 0 with | none => ((hz, 0), 8) | some i => ((sumS (encT (cmtS p s o lock).1), (i : Int)), 0)) from if_neg (by simpa using c), c, c3]
 simp [txC, iC, PVv, SV, staC, I, lp, tp, -errV_0]
 refine call0 hP (by simp [PVv, SV, staC, I]) ?_
 rintro y H' ⟨rfl, rfl⟩
 refine ⟨.inl (by simp), le_ok rfl, ?_⟩
 simp [iC, -errV_0]
 refine call0 hI (by simp [iC]) ?_
 rintro y H' ⟨rfl, rfl⟩
 refine ⟨.inl (by simp [I]), le_ok rfl, ?_⟩
 cases hx : ixP (4, d) (plcB p s o) 0 with
 | none =>
  simp [I, iC, -errV_0]
  exact fin0
 | some i =>
  have n0 : ¬ ((i : Int) < 0) := by omega
  simp [I, iC, n0, -errV_0]
  refine call0 (hT i) (by simp [TXv, txC, I, iC]) ?_
  rintro y H' ⟨rfl, rfl⟩
  refine ⟨.inl (by simp [PtV]), le_ok rfl, ?_⟩
  have hsl := sumS_len (encT (cmtT p s o lock))
  have z33 : ∀ a : EC, List.drop 33 (hc hz ++ [a]) = [] := fun a => by rw [List.drop_eq_nil_iff]; simp [hz]
  simp [PtV, ptC, hsl, z33, iC, -errV_0]
  exact fin0
set_option maxRecDepth 8000 in
theorem RAt_ok (p : Prm) (s : Sta) (o d : Int) (lock : List UInt8) (hp : p.ok) (hs : s.ok) (hl : lock.length = 32) : ECalls Tryz.prog 27 [PVv p, SV s, I .i64 o, .v (.agg (hc lock)), I .i64 d] [] fun y H' => H' = [] ∧ y = .tup [.agg (ptC (atS p s o lock d).1), .c (.fz (.lit (.int .i64 (atS p s o lock d).2)))] := by
 have h1 := hp.1
 have lp := prmC_len h1
 have tp := pm_take h1
 have hlt : List.take 32 lock = lock := List.tkL (by omega)
 have t32 := hc_t32 hl
 refine ecalls k_RAt ?_
 simp [c_RAt, PVv, SV, staC, I, lp, tp, iC, hl, hlt, t32]
 refine call0 (RCommit_ok p s o lock hp hs hl) (by simp [PVv, SV, staC, I]) ?_
 rintro y H' ⟨rfl, rfl⟩
 refine ⟨.inl (by simp), le_ok rfl, ?_⟩
 by_cases c : (cmtS p s o lock).2 = 0
 rotate_left
 ·rw [show atS p s o lock d = ((hz, 0), (cmtS p s o lock).2) from if_pos c]
  simp [c, txC, iC]
  exact fin0
 obtain ⟨c1, c2, c3⟩ := cmt_0 c
 obtain ⟨d1, d2⟩ := outsB_ok (o := o) hp hs hl c1
 have hpl : (plcB p s o).length ≤ 20 := by
  have e : (plcB p s o).length = (outsB p s o lock).length := by
   unfold plcB outsB plc1 plc2 out1 out2 plcP plcH outP outH
   simp only [List.length_append, List.length_map]
   split <;> split <;> rfl
  omega
 have hP := RPlaces_ok p s o hp hs
 rw [show plcS p s o = (plcB p s o, 0) by unfold plcS; rw [if_neg (by simpa using c1), if_neg (fun q => q c2)]] at hP
 have hT := RTxID_ok (cmtT p s o lock) (cmtT_ok hp hs hl c1) (by intro x hx; simp [cmtT] at hx; subst hx; rfl) (cmt_small hp hs hl c1)
 rw [show atS p s o lock d = (match ixP (4, d) (plcB p s o) 0 with | none => ((hz, 0), 8) | some i => ((sumS (encT (cmtS p s o lock).1), (i : Int)), 0)) from if_neg (by simpa using c), c, c3]
 simp [txC, iC, PVv, SV, staC, I, lp, tp]
 refine call0 hP (by simp [PVv, SV, staC, I]) ?_
 rintro y H' ⟨rfl, rfl⟩
 refine ⟨.inl (by simp), le_ok rfl, ?_⟩
 simp [iC, I]
 obtain ⟨Q, hQ⟩ : ∃ Q, plcB p s o = Q := ⟨_, rfl⟩
 obtain ⟨t, ht⟩ : ∃ t, cmtT p s o lock = t := ⟨_, rfl⟩
 rw [ht] at hT ⊢
 rw [hQ] at hpl ⊢
 obtain ⟨F, hF⟩ : ∃ F, ixP (4, d) Q 0 = F := ⟨_, rfl⟩
 rw [hF]
 have hsl := sumS_len (encT t)
 have hst : List.take 32 (sumS (encT t)) = sumS (encT t) := List.tkL (by omega)
 have d33 : ∀ a : EC, List.drop 33 (hc (sumS (encT t)) ++ [a]) = [] := fun a => by rw [List.drop_eq_nil_iff]; simp [hsl]
 have z33 : ∀ a : EC, List.drop 33 (hc hz ++ [a]) = [] := fun a => by rw [List.drop_eq_nil_iff]; simp [hz]
 have z32 : List.drop 32 (hc hz) = [] := rfl
 refine eloop (α := Nat) (fun i => i ≤ Q.length ∧ ixP (4, d) (Q.drop i) i = F) (fun i => Q.length - i)
  (fun i => [xA, xA, xA, xA, I .i64 d, xA, xA, xA, xA, xA, Ptr 3, xA, Ptr 4, xA, .v (.c (.fz (.sl 2 (plcv Q)))), xA, I .i64 i, xA, xA, xA, xA, xA, xA, xA, xA, xA, xA, xA, xA, xA, xA, xA, xA, xA, xA, xA, xA, xA, xA, xA, xA, xA, xA, xA, xA, xA, xA, xA, xA, xA, xA, xA, xA, xA, xA, xA, xA, xA, xA, xA, xA, .any])
  (fun _ => [some (.box 28 (prmC p)), some (.box 35 (staC s)), some (.box 23 (hc lock)), some (.box 25 (hc hz ++ [iC 0])), some (.box 77 (txC t))]) 0 [0, 16, 32, 48, 208]
  ⟨Nat.zero_le _, by simpa using hF⟩ (by simp [I, Ptr]) (by simp [iC, txC, staC]) (by simp) (by simp) (by simp) ?_
 rintro i ⟨hi, hi2⟩
 simp [I, Ptr, iC, txC, staC]
 refine alt (fun hlt => ?_) (fun hlt => ?_)
 ·have hln : i < Q.length := by omega
  obtain ⟨⟨xk, xi⟩, hcx⟩ : ∃ x, Q[i]? = some x := ⟨Q[i], by simp [hln]⟩
  have hge : (plcv Q)[i]'(by simp [hln]) = plcF (xk, xi) := by
   have e : (plcv Q)[i]? = some (plcF (xk, xi)) := by simp [plcv, hcx]
   rw [List.getElem?_eq_getElem (by simp [hln])] at e
   exact Option.some.inj e
  have w1 := wS (i := i) (by omega)
  rw [drop_cons hcx] at hi2
  unfold ixP at hi2
  simp [hln, hge, plcF, iF]
  by_cases e1 : xk = 4
  ·subst e1
   by_cases e2 : xi = d
   ·subst e2
    rw [if_pos rfl] at hi2
    rw [← hi2]
    simp [hln, hge, plcF, iF]
    refine call0 hT (by simp [TXv, txC, iC]) ?_
    rintro y H' ⟨rfl, rfl⟩
    refine ⟨.inl (by simp), le_ok rfl, ?_⟩
    simp [hsl, hst, d33, z33, z32, iC]
    exact fin0
   ·rw [if_neg (by simp [e2])] at hi2
    simp [hln, hge, plcF, iF, e2, w1, -Int.natCast_add]
    exact round (i + 1) [0, 1, 2, 3, 4] ⟨by omega, hi2⟩ (by omega) (by simp [I, Ptr]) (by simp [iC, txC, staC]) (by simp) (by simp) (by simp)
  ·rw [if_neg (by simp [e1])] at hi2
   simp [hln, hge, plcF, iF, e1, w1, -Int.natCast_add]
   exact round (i + 1) [0, 1, 2, 3, 4] ⟨by omega, hi2⟩ (by omega) (by simp [I, Ptr]) (by simp [iC, txC, staC]) (by simp) (by simp) (by simp)
 ·have hd : Q.drop i = [] := by rw [List.drop_eq_nil_iff]; omega
  rw [hd] at hi2
  rw [← hi2]
  simp [ixP, z33, iC]
  exact fin0
set_option maxRecDepth 8000 in
theorem VPar_ok (r : Rte) (t : Txn) (hr : r.ok) (ht : t.ok) (hse : ∀ x ∈ t.ins, x.sec = []) (hs : (encT t).length ≤ 100000000) : ECalls Tryz.prog 28 [RVv r, TXv t] [] fun y H' => H' = [] ∧ y = .tup [.agg (prmC (if chkV r = 0 then prmS r t else zPrm)), .c (.fz (.lit (errV (chkV r))))] := by
 obtain ⟨⟨h1, _⟩, ⟨h2, _⟩, _⟩ := id hr
 have l0 := rteC_len h1 h2
 have t0 := rt_take h1 h2
 have g76 := idx_of (rt_76 h1 h2) (by omega)
 have g78 := idx_of (rt_78 h1 h2) (by omega)
 have g79 := idx_of (rt_79 h1 h2) (by omega)
 have hsl := sumS_len (encT t)
 have g36 : (rteC r)[36]? = some (iC r.f.dl) := by
  unfold rteC
  rw [List.getElem?_append_left (by rw [prmC_len h1]; omega)]
  exact pm_at h1 4
 have g37 : (rteC r)[37]? = some (iC r.f.fe) := by
  unfold rteC
  rw [List.getElem?_append_left (by rw [prmC_len h1]; omega)]
  exact pm_at h1 5
 have g36 := idx_of g36 (by omega)
 have g37 := idx_of g37 (by omega)
 refine ecalls k_VPar ?_
 simp [c_VPar, RVv, TXv, txC, iC, l0, t0, -errV_0]
 refine call0 (VCheck_ok r hr) (by simp [RVv]) ?_
 rintro z H' ⟨rfl, rfl⟩
 refine ⟨.inl (by simp), le_ok rfl, ?_⟩
 by_cases c : chkV r = 0
 rotate_left
 ·rw [if_neg c]
  simp [c, -errV_0]
  exact fin0
 rw [if_pos c]
 simp [c, txC, iC, l0, g76, g78, g79, g36, g37, -errV_0]
 refine call0 (TxAt_ok t 0 ht hse hs) (by simp [TXv, txC, I, iC]) ?_
 rintro z H' ⟨rfl, rfl⟩
 refine ⟨.inl (by simp [PtV]), le_ok rfl, ?_⟩
 have hz0 : hz.length = 32 := rfl
 have a33 : ∀ r, List.take 33 (hc (sumS (encT t)) ++ r) = hc (sumS (encT t)) ++ List.take 1 r := fun r => tkn hsl r 1
 have a34 : ∀ r, List.take 34 (hc (sumS (encT t)) ++ r) = hc (sumS (encT t)) ++ List.take 2 r := fun r => tkn hsl r 2
 have a36 : ∀ r, List.take 36 (hc (sumS (encT t)) ++ r) = hc (sumS (encT t)) ++ List.take 4 r := fun r => tkn hsl r 4
 have a37 : ∀ r, List.take 37 (hc (sumS (encT t)) ++ r) = hc (sumS (encT t)) ++ List.take 5 r := fun r => tkn hsl r 5
 have a38 : ∀ r, List.take 38 (hc (sumS (encT t)) ++ r) = hc (sumS (encT t)) ++ List.take 6 r := fun r => tkn hsl r 6
 have b33 : ∀ r, List.drop 33 (hc hz ++ r) = List.drop 1 r := fun r => drn hz0 r 1
 have b38 : ∀ r, List.drop 38 (hc hz ++ r) = List.drop 6 r := fun r => drn hz0 r 6
 have c34 : ∀ r, List.drop 34 (hc (sumS (encT t)) ++ r) = List.drop 2 r := fun r => drn hsl r 2
 have c36 : ∀ r, List.drop 36 (hc (sumS (encT t)) ++ r) = List.drop 4 r := fun r => drn hsl r 4
 have c37 : ∀ r, List.drop 37 (hc (sumS (encT t)) ++ r) = List.drop 5 r := fun r => drn hsl r 5
 have c38 : ∀ r, List.drop 38 (hc (sumS (encT t)) ++ r) = List.drop 6 r := fun r => drn hsl r 6
 simp [PtV, ptC, hsl, hz0, a33, a34, a36, a37, a38, b33, b38, c34, c36, c37, c38, iC, l0, g76, g78, g79, g36, g37, -errV_0]
 exact fin0
def yl1d3 : UL | _ => [xb 6 11 .add 7 10, xM 7 3 11]
def yl1d4 : UL | _ => xF 0 5 3 1 :: xL 1 6 5 :: xE 2 7 6 :: xF 3 8 4 1 :: xL 4 9 8 :: xE 5 10 9 :: hid yl1d3
def yl1d9 : UL | _ => [xM 0 14 4, xF 1 15 4 1, xL 2 16 15, xE 3 17 16, xb 4 18 .lss 14 17]
def yl1da : UL | _ => [xL 6 27 26, xE 7 28 27, xb 8 29 .add 21 28, xM 9 3 29]
def yl1db : UL | _ => xM 0 21 3 :: xF 1 22 4 1 :: xL 2 23 22 :: xM 3 24 4 :: xI 4 25 3 23 24 :: xF 5 26 2 25 :: hid yl1da
def yb1df : UB | _ => .seq (reg0 [xC 0 4 0] 1) (.block 0 (.loop (.seq (.seq (reg0 (hid yl1d9) 5) (.cond (.t 18) .skip (.exit 0))) (.seq (.block 1 (reg0 (hid yl1db) 10)) (reg0 [xM 0 19 4, xc 1 20 .add 19 1, xM 2 4 20] 3)))))
def yb1dh : UB | _ => .seq (.seq (reg0 [xM 0 12 3, xc 1 13 .gtr 12 100] 2) (.cond (.t 13) (.seq (reg0 [xQ 0 2 (.mov (.k (.bool true)))] 1) .ret) .skip)) (.seq (hid yb1df) (.seq (reg0 [xM 0 30 3, xc 1 31 .gtr 30 300, xM 2 2 31] 3) .ret))
def yb1di : UB | _ => .seq (reg0 [xW 0 1 35 0, xQ 1 2 (.mov (.k (.bool false)))] 2) (.seq (reg0 (hid yl1d4) 8) (hid yb1dh))
attribute [simp] yl1d3 yl1d4 yl1d9 yl1da yl1db yb1df yb1dh yb1di
def c_longState : EB × List QOp × Nat := ((hid yb1di), [(.mov (.t 2))], 32)
theorem k_longState : cfun Tryz.prog 7 = some c_longState := by kernel_rfl
def sumK (l : List Hol) : Nat := (l.map (·.keys.length)).sum
theorem sumK_snoc (l : List Hol) (h : Hol) : sumK (l ++ [h]) = sumK l + h.keys.length := by simp [sumK]
theorem sumK_le : ∀ {l : List Hol}, (∀ h ∈ l, h.keys.length ≤ 100000000) → sumK l ≤ 100000000 * l.length
 | [], _ => by simp [sumK]
 | h :: r, q => by
  have h1 := q h (by simp)
  have h2 := sumK_le (l := r) (fun y hy => q y (by simp [hy]))
  simp [sumK] at *; omega
theorem sumK_mem : ∀ {l : List Hol} {h : Hol}, h ∈ l → h.keys.length ≤ sumK l
 | x :: r, h, q => by
  rcases List.mem_cons.1 q with rfl | q
  ·simp [sumK]
  ·have := sumK_mem q
   simp [sumK] at *; omega
def longS (s : Sta) : Bool := decide (100 < s.pays.length + s.holds.length ∨ 300 < s.pays.length + s.holds.length + sumK s.holds)
theorem longS_small {s : Sta} (h : longS s = false) : s.small ∧ s.pays.length ≤ 100 ∧ s.holds.length ≤ 100 ∧ ∀ h ∈ s.holds, h.keys.length ≤ 300 := by
 have h' := of_decide_eq_false h
 refine ⟨⟨by omega, by omega, fun x hx => ?_⟩, by omega, by omega, fun x hx => ?_⟩ <;>
 ·have := sumK_mem hx
  omega
theorem longState_ok (s : Sta) (hs : s.ok) : ECalls Tryz.prog 7 [SV s] [] fun y H' => H' = [] ∧ y = .lit (.bool (longS s)) := by
 obtain ⟨ok1, ok2, ok3, ok4, ok5, ok6, ok7⟩ := id hs
 have w0 : IntKind.i64.wrap ((s.pays.length : Int) + (s.holds.length : Int)) = ((s.pays.length + s.holds.length : Nat) : Int) := by rw [wrap_i64 (by omega) (by omega)]; simp
 refine ecalls k_longState ?_
 simp [c_longState, SV, staC, w0, -Int.natCast_add]
 refine alt (fun hlt => ?_) (fun hlt => ?_)
 ·simp
  have : longS s = true := by unfold longS; exact decide_eq_true (.inl (by omega))
  exact fin [] (by decide) rfl rfl rfl ⟨rfl, by simp [this]⟩
 simp [-Int.natCast_add]
 refine eloop (α := Nat) (fun i => i ≤ s.holds.length) (fun i => s.holds.length - i)
  (fun i => [xA, Ptr 0, xA, I .i64 ((s.pays.length + s.holds.length + sumK (s.holds.take i) : Nat) : Int), I .i64 i, xA, xA, xA, xA, xA, xA, xA, xA, xA, xA, xA, xA, xA, xA, xA, xA, xA, xA, xA, xA, xA, xA, xA, xA, xA, xA, .any]) (fun i => [some (.box 35 (staC s))]) 0 [0]
  (Nat.zero_le _) (by simp [Ptr, I, sumK]) (by simp [staC]) (by simp) (by simp) (by simp) ?_
 intro i hi
 have hlk := sumK_le (l := s.holds.take i) (fun h hh => (ok5 h (List.mem_of_mem_take hh)).2.2.2)
 have hlt' : (s.holds.take i).length = i := by simp; omega
 simp [Ptr, I, staC, -Int.natCast_add]
 refine alt (fun hlt => ?_) (fun hlt => ?_)
 ·obtain ⟨p, hc⟩ : ∃ p, s.holds[i]? = some p := ⟨s.holds[i], by simp [hlt]⟩
  have hcb := holv_get hc
  have hk := (ok5 p (List.mgE hc)).2.2.2
  have hts : sumK (s.holds.take (i + 1)) = sumK (s.holds.take i) + p.keys.length := by rw [take_s hc, sumK_snoc]
  have w2 := wS (i := i) (by omega)
  have w3 : IntKind.i64.wrap (((s.pays.length + s.holds.length + sumK (s.holds.take i) : Nat) : Int) + (p.keys.length : Int)) = ((s.pays.length + s.holds.length + sumK (s.holds.take (i + 1)) : Nat) : Int) := by
   rw [wrap_i64 (by omega) (by omega), hts]; simp; omega
  simp [hcb, holF, w2, w3, -Int.natCast_add]
  exact round (i + 1) [0] (by omega) (by omega) (by simp) (by simp) (by simp) (by simp) (by simp)
 have hil : i = s.holds.length := by omega
 subst hil
 rw [List.take_length] at *
 simp [-Int.natCast_add]
 exact fin [] (by decide) rfl rfl rfl ⟨rfl, by
  have : longS s = decide (300 < ((s.pays.length + s.holds.length + sumK s.holds : Nat) : Int)) := decide_eq_decide.2 (by omega)
  simp [this]⟩
def intF (n : Int) : List FV := [.lit (.int .i64 n)]
theorem opn_ints : Opn BB Tryz.prog 118 (fun l : List Int => [FV.sl 1 (l.map intF)]) (fun l => (∀ x ∈ l, i64 x) ∧ l.length ≤ maxLen) (fun l => l.length + 1) :=
 (opn_slice bok (e := 3) (es := 1) (by kernel_rfl) (by kernel_rfl) (by omega) opn_i64).map id (fun _ _ => rfl) (fun _ h => h) (fun l _ => by rw [sumB_one]; exact Nat.le_refl _)
theorem opn_two : Opn BB Tryz.prog 26 (fun p : Int × Int => [FV.lit (.int .i64 p.1), .lit (.int .i64 p.2)]) (fun p => i64 p.1 ∧ i64 p.2) (fun _ => 1) :=
 (opn_array bok (e := 3) (es := 1) (n := 2) (by kernel_rfl) (by kernel_rfl) (by kernel_rfl) opn_i64).map (fun l => (l[0]?.getD 0, l[1]?.getD 0)) (by
  rintro l ⟨_, h⟩
  match l, h with
  | [a, b], _ => simp) (by
  rintro l ⟨h1, h⟩
  match l, h, h1 with
  | [a, b], _, h1 => exact ⟨h1 a (by simp), h1 b (by simp)⟩) (fun _ _ => by omega)
theorem opn_pay : Opn BB Tryz.prog 128 payF Pay.ok (fun _ => 1) :=
 (opn_struct (tot := 36) bok Tryz.underlying128 (by kernel_rfl)
  (opnFs_cons bok (n := 1) (tot := 35) opn_i64 rfl (by kernel_rfl) (opnFs_cons bok (n := 1) (tot := 34) opn_i64 rfl (by kernel_rfl)
   (opnFs_cons bok (n := 1) (tot := 33) opn_i64 rfl (by kernel_rfl) (opnFs_cons bok (n := 1) (tot := 32) opn_i64 rfl (by kernel_rfl)
   (opnFs_cons bok (n := 32) (tot := 0) opn_hash rfl (by kernel_rfl) opnFs_nil)))))).map
  (fun p => (⟨p.1, p.2.1, p.2.2.1, p.2.2.2.1, p.2.2.2.2.1⟩ : Pay)) (by rintro ⟨a, b, c, d, e, u⟩ _; simp [payF]) (by rintro ⟨a, b, c, d, e, u⟩ h; exact ⟨h.1, h.2.1, h.2.2.1, h.2.2.2.1, h.2.2.2.2.1⟩) (by rintro ⟨a, b, c, d, e, u⟩ _; simp)
theorem opn_hol : Opn BB Tryz.prog 120 holF (fun h => i64 h.id ∧ i64 h.am ∧ (∀ k ∈ h.keys, i64 k)) (fun h => h.keys.length + 1) :=
 (opn_struct (tot := 3) bok Tryz.underlying120 (by kernel_rfl)
  (opnFs_cons bok (n := 1) (tot := 2) opn_i64 rfl (by kernel_rfl) (opnFs_cons bok (n := 1) (tot := 1) opn_i64 rfl (by kernel_rfl)
   (opnFs_cons bok (n := 1) (tot := 0) opn_ints rfl (by kernel_rfl) opnFs_nil)))).map
  (fun p => (⟨p.1, p.2.1, p.2.2.1⟩ : Hol)) (by rintro ⟨a, b, c, u⟩ _; simp [holF, intv, intF]) (by rintro ⟨a, b, c, u⟩ h; exact ⟨h.1, h.2.1, h.2.2.1.1⟩) (by rintro ⟨a, b, c, u⟩ _; simp; omega)
theorem opn_pays : Opn BB Tryz.prog 32 (fun l : List Pay => [FV.sl 36 (payv l)]) (fun l => ∀ x ∈ l, x.ok) (fun l => l.length) :=
 (opn_slice bok (by kernel_rfl) (by kernel_rfl) (by omega) opn_pay).map id (fun _ _ => rfl) (fun _ h => h.1) (fun l _ => by rw [sumB_one]; simp)
theorem opn_hols : Opn BB Tryz.prog 33 (fun l : List Hol => [FV.sl 3 (holv l)]) (fun l => ∀ h ∈ l, i64 h.id ∧ i64 h.am ∧ (∀ k ∈ h.keys, i64 k)) (fun l => sumB (fun h : Hol => h.keys.length + 1) l) :=
 (opn_slice bok (by kernel_rfl) (by kernel_rfl) (by omega) opn_hol).map id (fun _ _ => rfl) (fun _ h => h.1) (fun l _ => by simp)
def Sta.ok0 (s : Sta) : Prop := i64 s.num ∧ i64 s.h0 ∧ i64 s.h1 ∧ (∀ p ∈ s.pays, p.ok) ∧ ∀ h ∈ s.holds, i64 h.id ∧ i64 h.am ∧ (∀ k ∈ h.keys, i64 k)
def staF (s : Sta) : List FV := [.lit (.int .i64 s.num), .lit (.int .i64 s.h0), .lit (.int .i64 s.h1), .sl 36 (payv s.pays), .sl 3 (holv s.holds)]
def staB (s : Sta) : Nat := s.pays.length + sumB (fun h : Hol => h.keys.length + 1) s.holds
theorem opn_sta : Opn BB Tryz.prog 35 staF Sta.ok0 staB :=
 (opn_struct (tot := 5) bok Tryz.underlying35 (by kernel_rfl)
  (opnFs_cons bok (n := 1) (tot := 4) opn_i64 rfl (by kernel_rfl) (opnFs_cons bok (n := 2) (tot := 2) opn_two rfl (by kernel_rfl)
   (opnFs_cons bok (n := 1) (tot := 1) opn_pays rfl (by kernel_rfl) (opnFs_cons bok (n := 1) (tot := 0) opn_hols rfl (by kernel_rfl) opnFs_nil))))).map
  (fun p => (⟨p.1, p.2.1.1, p.2.1.2, p.2.2.1, p.2.2.2.1⟩ : Sta)) (by rintro ⟨a, b, c, d, u⟩ _; simp [staF]) (by rintro ⟨a, b, c, d, u⟩ h; exact ⟨h.1, h.2.1.1, h.2.1.2, h.2.2.1, h.2.2.2.1⟩) (by rintro ⟨a, b, c, d, u⟩ _; simp [staB]; omega)
theorem sta_ok {s : Sta} (h : s.ok0) (hb : staB s ≤ 1048576) : s.ok := by
 have key : ∀ (l : List Hol), l.length ≤ sumB (fun h : Hol => h.keys.length + 1) l ∧ ∀ x ∈ l, x.keys.length ≤ sumB (fun h : Hol => h.keys.length + 1) l := by
  intro l
  induction l with
  | nil => simp
  | cons y r ih =>
   simp only [sumB, List.length_cons]
   refine ⟨by omega, ?_⟩
   intro x hx
   rcases List.mem_cons.1 hx with rfl | hx
   ·omega
   ·have := ih.2 x hx; omega
 obtain ⟨k1, k2⟩ := key s.holds
 unfold staB at hb
 refine ⟨h.1, h.2.1, h.2.2.1, h.2.2.2.1, fun x hx => ?_, by omega, by omega⟩
 have q := h.2.2.2.2 x hx
 have := k2 x hx
 exact ⟨q.1, q.2.1, q.2.2, by omega⟩
def yl1dk : UL | _ => [xN 6 (.fz (.sto 5 (.t 3) (.t 11)))]
def yl1dl : UL | _ => xF 0 7 0 1 :: xL 1 8 7 :: xF 2 9 1 1 :: xD 3 10 2 9 :: xQ 4 11 (.build [xZ, xZ, xZ, xS, xS] [(0, 1, .t 8), (1, 2, .t 10)]) :: xQ 5 3 (.alloc 49 [xZ, xZ, xZ, xS, xS]) :: hid yl1dk
def yl1dn : UL | _ => [xM 0 12 4, xF 1 13 3 1, xL 2 14 13, xE 3 15 14, xb 4 16 .lss 12 15]
def yl1do : UL | _ => [xD 6 25 36 24, xQ 7 26 (.bsl 36 (([xZ, xZ, xZ, xZ] : List Value) ++ zU8) 1 [(0, .t 25)]), xO 8 27 (.app 127 36 64 (.t 20) (.t 26)), xF 9 28 3 3, xN 10 (.fz (.sto 1 (.t 28) (.t 27)))]
def yl1dp : UL | _ => xF 0 19 3 3 :: xL 1 20 19 :: xF 2 21 3 1 :: xL 3 22 21 :: xM 4 23 4 :: xI 5 24 36 22 23 :: hid yl1do
def yl1dv : UL | _ => [xM 0 29 5, xF 1 30 4 1, xL 2 31 30, xE 3 32 31, xb 4 33 .lss 29 32]
def yl1dx : UL | _ => [xO 24 60 (.app 124 3 40 (.t 37) (.t 59)), xF 25 61 4 3, xN 26 (.fz (.sto 1 (.t 61) (.t 60)))]
def yl1dy : UL | _ => xI 18 54 3 52 53 :: xF 19 55 2 54 :: xL 20 56 55 :: ⟨21, (some 57), none, (.app 3 1 8 (.t 50) (.t 56)), [0, 1, 2, 3, 4, 5, 6, 7, 8, 9, 10, 11, 12, 13]⟩ :: xQ 22 58 (.build [xZ, xZ, xS] [(0, 1, .t 43), (1, 1, .t 49), (2, 1, .t 57)]) :: ⟨23, (some 59), none, (.fz (.q (.bsl 3 [xZ, xZ, xS] 1 [(0, .t 58)]))), [0, 1]⟩ :: hid yl1dx
def yl1dz : UL | _ => xF 12 48 1 47 :: xL 13 49 48 :: xM 14 50 6 :: xF 15 51 4 1 :: xL 16 52 51 :: xM 17 53 5 :: hid yl1dy
def yl1e0 : UL | _ => xF 6 42 0 41 :: xL 7 43 42 :: xF 8 44 4 1 :: xL 9 45 44 :: xM 10 46 5 :: xI 11 47 3 45 46 :: hid yl1dz
def yl1e1 : UL | _ => xF 0 36 4 3 :: xL 1 37 36 :: xF 2 38 4 1 :: xL 3 39 38 :: xM 4 40 5 :: xI 5 41 3 39 40 :: hid yl1e0
def yb1e5 : UB | _ => .seq (reg0 [xC 0 5 0] 1) (.block 2 (.loop (.seq (.seq (reg0 (hid yl1dv) 5) (.cond (.t 33) .skip (.exit 2))) (.seq (.block 3 (.seq (reg0 [xQ 0 6 (.mov (.k xS))] 1) (reg1 (hid yl1e1) 27))) (reg0 [xM 0 34 5, xc 1 35 .add 34 1, xM 2 5 35] 3)))))
def yb1e7 : UB | _ => .seq (.seq (reg0 [xC 0 4 0] 1) (.block 0 (.loop (.seq (.seq (reg0 (hid yl1dn) 5) (.cond (.t 16) .skip (.exit 0))) (.seq (.block 1 (reg0 (hid yl1dp) 11)) (reg0 [xM 0 17 4, xc 1 18 .add 17 1, xM 2 4 18] 3)))))) (.seq (hid yb1e5) (.seq (reg0 [xD 0 62 5 3, xN 1 (.fz (.sto 5 (.t 2) (.t 62)))] 2) .ret))
def yb1e8 : UB | _ => .seq (reg0 [xW 0 1 35 0, xQ 1 2 (.alloc 49 [xZ, xZ, xZ, xS, xS])] 2) (.seq (reg0 (hid yl1dl) 7) (hid yb1e7))
attribute [simp] yl1dk yl1dl yl1dn yl1do yl1dp yl1dv yl1dx yl1dy yl1dz yl1e0 yl1e1 yb1e5 yb1e7 yb1e8
def c_giveState : EB × List QOp × Nat := ((hid yb1e8), [(.lda 5 (.t 2))], 63)
theorem k_giveState : cfun Tryz.prog 11 = some c_giveState := by kernel_rfl
def zC : List EC := [.fz (.lit (.int .i64 0)), .fz (.lit (.int .i64 0)), .fz (.lit (.int .i64 0)), .fz (.lit (.slice none 0 0)), .fz (.lit (.slice none 0 0))]
def gC (s : Sta) (a b : EC) : List EC := [.fz (.lit (.int .i64 s.num)), .fz (.lit (.int .i64 s.h0)), .fz (.lit (.int .i64 s.h1)), a, b]
theorem giveState_ok (s : Sta) (hs : s.ok) (hm : s.small) : ECalls Tryz.prog 11 [SV s] [] fun y H' => H' = [] ∧ y = SV s := by
 obtain ⟨ok1, ok2, ok3, ok4, ok5, ok6, ok7⟩ := id hs
 obtain ⟨m1, m2, m3⟩ := hm
 refine ecalls k_giveState ?_
 simp [c_giveState, SV, staC]
 refine loopW _ (weak_nil (o := 112) (k := 3) (ty := 127) (es := 36) rfl rfl (by omega)) ?_
 refine loopW _ (weak_nil (o := 112) (k := 4) (ty := 124) (es := 3) rfl rfl (by omega)) ?_
 refine eloop (α := Nat) (fun i => i ≤ s.pays.length) (fun i => s.pays.length - i)
  (fun i => [xA, Ptr 0, Ptr 1, Ptr 2, I .i64 i, xA, xA, xA, xA, xA, xA, xA, xA, xA, xA, xA, xA, xA, xA, xA, xA, xA, xA, xA, xA, xA, xA, xA, xA, xA, xA, xA, xA, xA, xA, xA, xA, xA, xA, xA, xA, xA, xA, xA, xA, xA, xA, xA, xA, xA, xA, xA, xA, xA, xA, xA, xA, xA, xA, xA, xA, xA, .any]) (fun i => [some (.box 35 (staC s)), some (.box 49 zC), some (.box 49 (gC s (.row 3 i) (.row 4 0))), some (.row 127 36 (payv (s.pays.take i))), some (.row 124 3 [])]) 0 [0, 16, 112, 160, 161]
  (Nat.zero_le _) (by simp [Ptr, I]) (by simp [zC, gC, staC, payv]) (by simp) (by simp) (by simp) ?_
 intro i hi
 simp [Ptr, I, staC, zC, gC]
 refine alt (fun hlt => ?_) (fun hlt => ?_)
 ·obtain ⟨p, hc⟩ : ∃ p, s.pays[i]? = some p := ⟨s.pays[i], by simp [hlt]⟩
  have hpo := ok4 p (List.mgE hc)
  have hl32 := hpo.2.2.2.2
  have ht : p.lock.take 32 = p.lock := List.tkL (by omega)
  have hcb := payv_get hc
  have w2 := wS (i := i) (by omega)
  have e2 : payv (s.pays.take (i + 1)) = payv (s.pays.take i) ++ [payF p] := by rw [take_s hc]; simp [payv]
  have hm0 : min i s.pays.length = i := by omega
  simp [hcb, payF, hl32, ht, w2, hm0, -Int.natCast_add]
  refine ⟨by omega, ?_⟩
  exact round (i + 1) [0, 1, 2, 213, 4] (by omega) (by omega) (by simp) (by simp [e2, payF]) (by simp) (by simp) (by simp)
 have hil : i = s.pays.length := by omega
 subst hil
 rw [List.take_length]
 simp
 refine eloop (α := Nat) (fun i => i ≤ s.holds.length) (fun i => s.holds.length - i)
  (fun i => [xA, Ptr 0, Ptr 1, Ptr 2, xA, I .i64 i, xA, xA, xA, xA, xA, xA, xA, xA, xA, xA, xA, xA, xA, xA, xA, xA, xA, xA, xA, xA, xA, xA, xA, xA, xA, xA, xA, xA, xA, xA, xA, xA, xA, xA, xA, xA, xA, xA, xA, xA, xA, xA, xA, xA, xA, xA, xA, xA, xA, xA, xA, xA, xA, xA, xA, xA, .any]) (fun i => [some (.box 35 (staC s)), some (.box 49 zC), some (.box 49 (gC s (.row 3 s.pays.length) (.row 4 i))), some (.row 127 36 (payv s.pays)), some (.row 124 3 (holv (s.holds.take i)))]) 0 [0, 1, 2, 3, 4]
  (Nat.zero_le _) (by simp [Ptr, I]) (by simp [zC, gC, staC, holv]) (by simp) (by simp) (by simp) ?_
 intro i hi
 simp [Ptr, I, staC, zC, gC]
 refine alt (fun hlt => ?_) (fun hlt => ?_)
 ·obtain ⟨p, hc⟩ : ∃ p, s.holds[i]? = some p := ⟨s.holds[i], by simp [hlt]⟩
  have hk := m3 p (List.mgE hc)
  have hcb := holv_get hc
  have w2 := wS (i := i) (by omega)
  have e2 : holv (s.holds.take (i + 1)) = holv (s.holds.take i) ++ [holF p] := by rw [take_s hc]; simp [holv]
  have hm0 : min i s.holds.length = i := by omega
  simp [hcb, holF, w2, hm0, -Int.natCast_add]
  refine ⟨⟨by omega, by omega⟩, ⟨by omega, by omega⟩, ?_⟩
  exact round (i + 1) [0, 1, 2, 3, 485] (by omega) (by omega) (by simp) (by simp [e2, holF, List.tkL]) (by simp) (by simp) (by simp)
 have hil : i = s.holds.length := by omega
 subst hil
 rw [List.take_length]
 simp
 refine finW _ (weak_frz (o := 3) (ty := 127) (es := 36) (xs := payv s.pays) rfl) ?_
 refine finW _ (weak_frz (o := 4) (ty := 124) (es := 3) (xs := holv s.holds) rfl) ?_
 exact fin [] (by decide) rfl rfl rfl ⟨rfl, by simp [List.tkL]⟩
def yl1e9 : UL | _ => [xW 0 3 31 0, xW 1 4 85 1, xW 2 5 86 2, xQ 3 6 (.mov (.k (.bool false)))]
def yl1ed : UL | _ => [xD 0 23 81 3, xO 1 24 (.call 9 [.t 23]), xQ 2 7 (.alloc 44 (zU8 ++ (([xZ, xZ, xZ, xZ, xZ, xZ] : List Value) ++ zU8 ++ [xZ, xZ, xZ, xZ, xZ, xZ, xZ, xZ, xZ, xZ, xZ]))), xN 3 (.sto 81 (.t 7) (.t 24))]
def yl1ee : UL | _ => [xM 18 9 40]
def yl1ef : UL | _ => ⟨5, (some 31), none, (.call 11 [.t 30]), [6, 7, 8, 9, 10, 11, 16]⟩ :: ⟨12, (some 38), none, (.call 25 [.t 28, .t 31, .t 33, .t 35, .t 37]), [16]⟩ :: xM 13 25 38 :: xX 14 39 0 25 :: xX 15 40 1 25 :: ⟨17, none, none, (.sto 33 (.t 8) (.t 39)), [15]⟩ :: hid yl1ee
def yl1eg : UL | _ => xF 8 34 45 4 :: xD 9 35 32 34 :: xF 10 36 44 4 :: xL 11 37 36 :: xQ 16 8 (.alloc 40 (zU8 ++ [xZ])) :: ⟨2, (some 28), none, (.call 26 [.t 27]), [3, 4, 6, 7, 8, 9, 10, 11, 16]⟩ :: hid yl1ef
def yl1eh : UL | _ => xF 0 26 0 4 :: xD 1 27 38 26 :: xF 3 29 38 4 :: xD 4 30 5 29 :: xF 6 32 43 4 :: xL 7 33 32 :: hid yl1eg
def yl1ei : UL | _ => [xX 12 53 0 41, xX 13 54 1 41, xQ 14 10 (.alloc 25 (zU8 ++ [xZ])), xN 15 (.sto 33 (.t 10) (.t 53)), xM 16 11 54]
def yl1ej : UL | _ => xF 6 48 45 4 :: xD 7 49 32 48 :: xF 8 50 44 4 :: xL 9 51 50 :: xO 10 52 (.call 27 [.t 43, .t 45, .t 47, .t 49, .t 51]) :: xM 11 41 52 :: hid yl1ei
def yl1ek : UL | _ => xF 0 42 0 4 :: xD 1 43 38 42 :: xF 2 44 38 4 :: xD 3 45 5 44 :: xF 4 46 43 4 :: xL 5 47 46 :: hid yl1ej
def yl1el : UL | _ => [xM 6 55 61, xX 7 62 0 55, xX 8 63 1 55, xQ 9 12 (.alloc 71 [xZ, xS, xS]), xN 10 (.fz (.sto 3 (.t 12) (.t 62))), xM 11 13 63]
def yl1em : UL | _ => xD 0 56 81 7 :: xQ 1 57 (.iad 2 33 (.t 5) (xK 0)) :: xD 2 58 33 57 :: xQ 3 59 (.iad 2 33 (.t 5) (xK 1)) :: xD 4 60 33 59 :: xO 5 61 (.call 21 [.t 56, .t 58, .t 60]) :: hid yl1el
def yl1en : UL | _ => [xM 6 64 70, xX 7 71 0 64, xX 8 72 1 64, xQ 9 14 (.alloc 77 [xZ, xS, xS]), xN 10 (.fz (.sto 3 (.t 14) (.t 71))), xM 11 15 72]
def yl1eo : UL | _ => xD 0 65 81 3 :: xQ 1 66 (.iad 2 33 (.t 5) (xK 0)) :: xD 2 67 33 66 :: xQ 3 68 (.iad 2 33 (.t 5) (xK 1)) :: xD 4 69 33 68 :: xO 5 70 (.call 22 [.t 65, .t 67, .t 69]) :: hid yl1en
def yl1ep : UL | _ => [xQ 6 16 (.alloc 42 (zU8 ++ [xZ, xZ, xZ, xZ, xZ, xZ])), xN 7 (.sto 38 (.t 16) (.t 77)), xM 8 17 78]
def yl1eq : UL | _ => xD 0 74 81 7 :: xD 1 75 3 12 :: xO 2 76 (.call 28 [.t 74, .t 75]) :: xM 3 73 76 :: xX 4 77 0 73 :: xX 5 78 1 73 :: hid yl1ep
def yl1er : UL | _ => [xQ 0 79 (.build (zU8 ++ [xZ, xZ, xZ, xZ, xZ, xZ]) []), xQ 1 18 (.alloc 42 (zU8 ++ [xZ, xZ, xZ, xZ, xZ, xZ])), xN 2 (.sto 38 (.t 18) (.t 79))]
def yl1et : UL | _ => [xN 18 (.sto 38 (.t 18) (.t 100))]
def yl1eu : UL | _ => xL 13 96 95 :: xF 14 97 0 3 :: xF 15 98 37 97 :: xL 16 99 98 :: ⟨1, (some 84), none, (.call 29 [.t 83, (xK 0)]), [2, 3, 4, 5, 6, 7, 8, 9, 10, 11, 12, 13, 14, 15, 16]⟩ :: xQ 17 100 (.build (zU8 ++ [xZ, xZ, xZ, xZ, xZ, xZ]) [(0, 33, .t 84), (33, 1, .t 86), (34, 2, .t 93), (36, 1, .t 96), (37, 1, .t 99)]) :: hid yl1et
def yl1ev : UL | _ => xF 7 90 76 3 :: xQ 8 91 (.iad 3 1 (.t 90) (xK 2)) :: xL 9 92 91 :: xQ 10 93 (.build [xZ, xZ] [(0, 1, .t 89), (1, 1, .t 92)]) :: xF 11 94 0 3 :: xF 12 95 36 94 :: hid yl1eu
def yl1ew : UL | _ => xD 0 83 3 12 :: xF 2 85 79 3 :: xL 3 86 85 :: xF 4 87 76 3 :: xQ 5 88 (.iad 3 1 (.t 87) (xK 0)) :: xL 6 89 88 :: hid yl1ev
def yl1ey : UL | _ => [xM 36 137 136, ⟨37, (some 138), (some (137, true)), (.call 8 []), []⟩, xR 38 139 137 138, xM 39 6 139]
def yl1ez : UL | _ => yM 30 131 130 true 17 :: xG 32 133 130 true (.lda 81 (.t 3)) :: ⟨31, (some 132), (some (130, true)), (.call 13 [.t 131]), [32]⟩ :: ⟨33, (some 134), (some (130, true)), (.call 16 [.t 133]), []⟩ :: xG 34 135 130 true (.bin .eql (.t 132) (.t 134)) :: xR 35 136 130 135 :: hid yl1ey
def yl1f0 : UL | _ => xM 24 125 124 :: xG 25 126 125 true (.lda 38 (.t 16)) :: xG 26 127 125 true (.lda 38 (.t 18)) :: xG 27 128 125 true (.eqw false [(32, .u8), (6, .i64)] (.t 126) (.t 127)) :: xR 28 129 125 128 :: xM 29 130 129 :: hid yl1ez
def yl1f1 : UL | _ => xM 18 119 118 :: yM 19 120 119 true 13 :: yM 21 122 119 true 15 :: ⟨20, (some 121), (some (119, true)), (.call 13 [.t 120]), [21]⟩ :: xG 22 123 119 true (.bin .eql (.t 121) (.t 122)) :: xR 23 124 119 123 :: hid yl1f0
def yl1f2 : UL | _ => ⟨11, (some 112), (some (110, true)), (.call 23 [.t 111]), [13]⟩ :: xG 12 113 110 true (.b2s (.t 112)) :: ⟨14, (some 115), (some (110, true)), (.call 24 [.t 114]), [12]⟩ :: xG 15 116 110 true (.b2s (.t 115)) :: xG 16 117 110 true (.bin .eql (.t 113) (.t 116)) :: xR 17 118 110 117 :: hid yl1f1
def yl1f3 : UL | _ => ⟨5, (some 106), (some (104, true)), (.call 13 [.t 105]), [6]⟩ :: xG 7 108 104 true (.bin .eql (.t 106) (.t 107)) :: xR 8 109 104 108 :: xM 9 110 109 :: xG 10 111 110 true (.lda 3 (.t 12)) :: xG 13 114 110 true (.lda 3 (.t 14)) :: hid yl1f2
def yl1f4 : UL | _ => xD 0 101 33 8 :: xD 1 102 33 10 :: xQ 2 103 (.eqw false [(32, .u8), (1, .i64)] (.t 101) (.t 102)) :: xM 3 104 103 :: yM 4 105 104 true 9 :: yM 6 107 104 true 11 :: hid yl1f3
def yb1f6 : UB | _ => .seq (reg0 (hid yl1eo) 12) (.seq (reg0 (hid yl1eq) 9) (.seq (reg0 (hid yl1er) 3) (.seq (.seq (reg0 [xD 0 80 81 3, xO 1 81 (.call 16 [.t 80]), xc 2 82 .eql 81 0] 3) (.cond (.t 82) (reg1 (hid yl1ew) 19) .skip)) (.seq (reg1 (hid yl1f4) 40) .ret))))
def yb1f7 : UB | _ => .seq (reg0 (hid yl1ek) 17) (.seq (reg0 (hid yl1em) 12) (hid yb1f6))
def yb1f8 : UB | _ => .seq (reg0 (hid yl1ed) 4) (.seq (reg1 (hid yl1eh) 19) (hid yb1f7))
def yb1f9 : UB | _ => .seq (reg0 (hid yl1e9) 4) (.seq (.seq (reg0 [xF 0 19 38 4, xD 1 20 5 19, xO 2 21 (.call 7 [.t 20])] 3) (.cond (.t 21) (.seq (reg0 [xO 0 22 (.call 8 []), xM 1 6 22] 2) .ret) .skip)) (hid yb1f8))
attribute [simp] yl1e9 yl1ed yl1ee yl1ef yl1eg yl1eh yl1ei yl1ej yl1ek yl1el yl1em yl1en yl1eo yl1ep yl1eq yl1er yl1et yl1eu yl1ev yl1ew yl1ey yl1ez yl1f0 yl1f1 yl1f2 yl1f3 yl1f4 yb1f6 yb1f7 yb1f8 yb1f9
def c_VirtBuilds : EB × List QOp × Nat := ((hid yb1f9), [(.mov (.t 6))], 140)
theorem k_VirtBuilds : cfun Tryz.prog 5 = some c_VirtBuilds := by kernel_rfl
def helC (p : Prm) (s : Sta) (o d : Int) (lock : List UInt8) : List EC := prmC p ++ (staC s ++ (iC o :: iC d :: hc lock))
def helF (p : Prm) (s : Sta) (o d : Int) (lock : List UInt8) : List FV := prmF p ++ (staF s ++ (iF o :: iF d :: hf lock))
section
variable {p : Prm} {lock : List UInt8} (h : p.tx.length = 32) (hl : lock.length = 32) (s : Sta) (o d : Int)
include h
theorem hel_38 : (helC p s o d lock).drop 38 = staC s ++ (iC o :: iC d :: hc lock) := by unfold helC; rw [← prmC_len h, List.drop_left]
theorem hel_p : (helC p s o d lock).take 38 = prmC p := by unfold helC; rw [← prmC_len h, List.take_left]
theorem hel_s : ((helC p s o d lock).drop 38).take 5 = staC s := by rw [hel_38 h]; rfl
theorem hel_45 : (helC p s o d lock).drop 45 = hc lock := by rw [show 45 = 38 + 7 from rfl, ← List.drop_drop, hel_38 h]; rfl
theorem hel_43 : (helC p s o d lock)[43]? = some (iC o) := by
 have e : (helC p s o d lock)[43]? = ((helC p s o d lock).drop 38)[5]? := by rw [List.getElem?_drop]
 rw [e, hel_38 h]; rfl
theorem hel_44 : (helC p s o d lock)[44]? = some (iC d) := by
 have e : (helC p s o d lock)[44]? = ((helC p s o d lock).drop 38)[6]? := by rw [List.getElem?_drop]
 rw [e, hel_38 h]; rfl
include hl
theorem hel_len : (helC p s o d lock).length = 77 := by simp [helC, prmC_len h, staC, hl]
theorem hel_lock : ((helC p s o d lock).drop 45).take 32 = hc lock := by rw [hel_45 h]; exact List.tkL (by simp [hl])
end
theorem pts_1 {x y : Pt} (hx : Ptok x) : (ptC x ++ ptC y).take 33 = ptC x := by rw [← ptC_len hx.1, List.take_left]
theorem pts_2 {x y : Pt} (hx : Ptok x) (hy : Ptok y) : ((ptC x ++ ptC y).drop 33).take 33 = ptC y := by rw [← ptC_len hx.1, List.drop_left, ptC_len hx.1]; exact ptC_take hy.1
theorem offS_sm (r : Rte) (x y : Pt) (hx : Ptok x) (hy : Ptok y) : (∀ q ∈ (offS r x y).1.ins, q.sec = []) ∧ (encT (offS r x y).1).length ≤ 100000000 := by
 have hz : (∀ q ∈ zTx.ins, q.sec = []) ∧ (encT zTx).length ≤ 100000000 := ⟨by simp [zTx], by have := zTx_len; omega⟩
 unfold offS
 split
 ·exact hz
 unfold donT
 split
 ·exact hz
 ·refine ⟨?_, by have := offT_len r x y hx hy; show (encT (offT r x y)).length ≤ _; omega⟩
  intro q hq
  simp [offT] at hq
  rcases hq with rfl | rfl <;> rfl
theorem atS_ok {p : Prm} {s : Sta} {o d : Int} {lock : List UInt8} (hp : p.ok) (hs : s.ok) (hl : lock.length = 32) : Ptok (atS p s o lock d).1 := by
 have hz0 : Ptok (hz, 0) := ⟨rfl, by simp [i64]⟩
 unfold atS
 split
 ·exact hz0
 rename_i c
 split
 ·exact hz0
 ·rename_i i hi
  have h1 := ixP_lt _ _ _ hi
  obtain ⟨c1, c2, c3⟩ := cmt_0 (Classical.not_not.1 c)
  have h2 := (outsB_ok (o := o) hp hs hl c1).2
  have e : (plcB p s o).length = (outsB p s o lock).length := by
   unfold plcB outsB plc1 plc2 out1 out2 plcP plcH outP outH
   simp only [List.length_append, List.length_map]
   split <;> split <;> rfl
  exact ⟨sumS_len _, by unfold i64; dsimp only; omega⟩
theorem litK_p {x : Pt} (h : Ptok x) : litK (unrle [(32, .u8), (1, .i64)]) (ptC x) = some (x.1.map (fun b => (b.toNat : Int)) ++ [x.2]) := by
 have e : unrle [(32, .u8), (1, .i64)] = List.replicate x.1.length .u8 ++ [.i64] := by rw [h.1]; rfl
 rw [e]
 exact litK_app (litK_u8 x.1) (litK_i64 h.2)
theorem litK_m {x : Prm} (h : x.ok) : litK (unrle [(32, .u8), (6, .i64)]) (prmC x) = some (x.tx.map (fun b => (b.toNat : Int)) ++ [x.n, x.am, x.k0, x.k1, x.dl, x.fe]) := by
 obtain ⟨h0, h1, h2, h3, h4, h5, h6⟩ := h
 have e : unrle [(32, .u8), (6, .i64)] = List.replicate x.tx.length .u8 ++ [.i64, .i64, .i64, .i64, .i64, .i64] := by rw [h0]; rfl
 rw [e]
 exact litK_app (litK_u8 x.tx) (by simp [litK, iC, wf_i64 h1, wf_i64 h2, wf_i64 h3, wf_i64 h4, wf_i64 h5, wf_i64 h6])
theorem prmS_ok {r : Rte} {t : Txn} (hr : r.ok) : (if chkV r = 0 then prmS r t else zPrm).ok := by
 obtain ⟨⟨_, _, _, _, _, f1, f2⟩, _, a, b, c, d, e⟩ := hr
 split
 ·exact ⟨sumS_len _, by simp [prmS, i64], d, a, c, f1, f2⟩
 ·simp [zPrm, Prm.ok, i64, hz]
set_option maxRecDepth 8000 in
theorem VirtBuilds_ok (r : Rte) (p : Prm) (s : Sta) (o d : Int) (lock : List UInt8) (x y : Pt) (hr : r.ok) (hp : p.ok) (hs : s.ok) (hl : lock.length = 32) (hd : i64 d) (hx : Ptok x) (hy : Ptok y) :
  ECalls Tryz.prog 5 [RVv r, .v (.agg (helC p s o d lock)), .v (.agg (ptC x ++ ptC y))] [] fun z H' => H' = [] ∧ z = .lit (.bool true) := by
 obtain ⟨⟨h1, _⟩, ⟨h2, _⟩, _⟩ := id hr
 have hp1 := hp.1
 have l0 := rteC_len h1 h2
 have t0 := rt_take h1 h2
 have lh := hel_len hp1 hl s o d
 have k1 := hel_p (lock := lock) hp1 s o d
 have k2 := hel_s (lock := lock) hp1 s o d
 have k3 := hel_lock hp1 hl s o d
 have e43 := idx_of (hel_43 (lock := lock) hp1 s o d) (by omega)
 have e44 := idx_of (hel_44 (lock := lock) hp1 s o d) (by omega)
 have lp2 : (ptC x ++ ptC y).length = 66 := by simp [ptC_len hx.1, ptC_len hy.1]
 have m1 := pts_1 (y := y) hx
 have m2 := pts_2 hx hy
 have lpm := prmC_len hp1
 have z81 : List.drop 81 (hc hz ++ (EC.fz (.lit (.int .i64 0))) :: (EC.fz (.lit (.int .i64 0))) :: (EC.fz (.lit (.int .i64 0))) :: (EC.fz (.lit (.int .i64 0))) :: (EC.fz (.lit (.int .i64 0))) :: (EC.fz (.lit (.int .i64 0))) :: (hc hz ++ [.fz (.lit (.int .i64 0)), .fz (.lit (.int .i64 0)), .fz (.lit (.int .i64 0)), .fz (.lit (.int .i64 0)), .fz (.lit (.int .i64 0)), .fz (.lit (.int .i64 0)), .fz (.lit (.int .i64 0)), .fz (.lit (.int .i64 0)), .fz (.lit (.int .i64 0)), .fz (.lit (.int .i64 0)), .fz (.lit (.int .i64 0))])) = ([] : List EC) := rfl
 have z33 : List.drop 33 (hc hz ++ [EC.fz (.lit (.int .i64 0))]) = [] := rfl
 have z38 : List.drop 38 (hc hz ++ [EC.fz (.lit (.int .i64 0)), EC.fz (.lit (.int .i64 0)), EC.fz (.lit (.int .i64 0)), EC.fz (.lit (.int .i64 0)), EC.fz (.lit (.int .i64 0)), EC.fz (.lit (.int .i64 0))]) = ([] : List EC) := rfl
 refine ecalls k_VirtBuilds ?_
 simp [c_VirtBuilds, RVv, SV, staC, l0, t0, lh, k1, k2, k3, e43, e44, I, iC, -errV_0]
 refine call0 (longState_ok s hs) (by simp [SV, staC]) ?_
 rintro z H' ⟨rfl, rfl⟩
 refine ⟨.inl (by simp), le_ok rfl, ?_⟩
 cases hl1 : longS s
 rotate_left
 ·simp [-errV_0]
  refine call0 sure_ok (by simp) ?_
  rintro z H' ⟨rfl, rfl⟩
  refine ⟨.inl (by simp), le_ok rfl, ?_⟩
  simp [-errV_0]
  exact fin0
 have ms := (longS_small hl1).1
 simp [RVv, SV, staC, l0, t0, lh, k1, k2, k3, e43, e44, I, iC, -errV_0]
 refine call0 (giveR_ok r h1 h2) (by simp [RVv]) ?_
 rintro z H' ⟨rfl, rfl⟩
 refine ⟨.inl (by simp [RVv]), le_ok rfl, ?_⟩
 simp [RVv, SV, staC, l0, t0, z81, lh, k1, k2, k3, e43, e44, I, iC, -errV_0]
 refine call0 (giveP_ok p hp1) (by simp [PVv]) ?_
 rintro z H' ⟨rfl, rfl⟩
 refine ⟨.inl (by simp [PVv]), le_ok rfl, ?_⟩
 simp [PVv, RVv, SV, staC, l0, t0, lh, k1, k2, k3, e43, e44, lpm, I, iC, -errV_0]
 refine call0 (giveState_ok s hs ms) (by simp [SV, staC]) ?_
 rintro z H' ⟨rfl, rfl⟩
 refine ⟨.inl (by simp [SV, staC]), le_ok rfl, ?_⟩
 simp [PVv, RVv, SV, staC, l0, t0, lh, k1, k2, k3, e43, e44, lpm, I, iC, -errV_0]
 have hA := VAt_ok p s o d lock hp hs hl hd
 have hB := RAt_ok p s o d lock hp hs hl
 have hAo := atS_ok (o := o) (d := d) hp hs hl
 generalize atS p s o lock d = qa at hA hB hAo
 obtain ⟨ap, ae⟩ := qa
 dsimp only at hA hB hAo
 have la := ptC_len hAo.1
 have ta := ptC_take hAo.1
 refine call0 hA (by simp [PVv, SV, staC, I]) ?_
 rintro z H' ⟨rfl, rfl⟩
 refine ⟨.inl (by simp), le_ok rfl, ?_⟩
 simp [PVv, RVv, SV, staC, l0, t0, z33, lh, k1, k2, k3, e43, e44, lpm, I, iC, la, ta, -errV_0]
 refine call0 hB (by simp [PVv, SV, staC, I]) ?_
 rintro z H' ⟨rfl, rfl⟩
 refine ⟨.inl (by simp), le_ok rfl, ?_⟩
 simp [PVv, RVv, PtV, l0, t0, z33, lh, lp2, m1, m2, I, iC, la, ta, -errV_0]
 have hO := VOff_ok r x y hr hx hy
 have hP := ROff_ok r x y hr hx hy
 have hOk := (offS_small r x y hr hx hy)
 have hOs := offS_sm r x y hx hy
 generalize offS r x y = qo at hO hP hOk hOs
 obtain ⟨t, eo⟩ := qo
 dsimp only at hO hP hOk hOs
 have hV := VPar_ok r t hr hOk.1 hOs.1 hOs.2
 have hvo := prmS_ok (t := t) hr
 refine call0 hO (by simp [RVv, PtV]) ?_
 rintro z H' ⟨rfl, rfl⟩
 refine ⟨.inl (by simp [txC, iC]), le_ok rfl, ?_⟩
 simp [txC, RVv, PtV, l0, t0, lp2, m1, m2, I, iC, -errV_0]
 refine call0 hP (by simp [RVv, PtV]) ?_
 rintro z H' ⟨rfl, rfl⟩
 refine ⟨.inl (by simp [txC, iC]), le_ok rfl, ?_⟩
 simp [txC, RVv, PtV, l0, t0, lp2, I, iC, -errV_0]
 refine call0 hV (by simp [RVv, TXv, txC, iC]) ?_
 rintro z H' ⟨rfl, rfl⟩
 refine ⟨.inl (by simp), le_ok rfl, ?_⟩
 have lv := prmC_len hvo.1
 have tv := pm_take hvo.1
 simp [lv, tv, z38, RVv, l0, t0, I, iC, -errV_0]
 refine call0 (RCheckV_ok r hr) (by simp [RVv]) ?_
 rintro z H' ⟨rfl, rfl⟩
 refine ⟨.inl (by simp [I]), le_ok rfl, ?_⟩
 have kp := litK_p hAo
 by_cases cv : chkV r = 0
 ·rw [if_pos cv] at hvo lv tv
  obtain ⟨K, hK⟩ : ∃ K, litK (unrle [(32, .u8), (6, .i64)]) (prmC (prmS r t)) = some K := ⟨_, litK_m hvo⟩
  have kv := hK
  have kv' : litK (unrle [(32, .u8), (6, .i64)]) (hc (sumS (encT t)) ++ [EC.fz (.lit (.int .i64 0)), .fz (.lit (.int .i64 r.am)), .fz (.lit (.int .i64 r.a)), .fz (.lit (.int .i64 r.c)), .fz (.lit (.int .i64 r.f.dl)), .fz (.lit (.int .i64 r.f.fe))]) = some K := hK
  have kz : K = K := rfl
  have hpt : ptC (sumS (encT t), 0) = hc (sumS (encT t)) ++ [EC.fz (.lit (.int .i64 0))] := rfl
  have g76 := idx_of (rt_76 h1 h2) (by omega)
  have g78 := idx_of (rt_78 h1 h2) (by omega)
  have g79 := idx_of (rt_79 h1 h2) (by omega)
  have hsl := sumS_len (encT t)
  have g36 : (rteC r)[36]? = some (iC r.f.dl) := by
   unfold rteC
   rw [List.getElem?_append_left (by rw [prmC_len h1]; omega)]
   exact pm_at h1 4
  have g37 : (rteC r)[37]? = some (iC r.f.fe) := by
   unfold rteC
   rw [List.getElem?_append_left (by rw [prmC_len h1]; omega)]
   exact pm_at h1 5
  have g36 := idx_of g36 (by omega)
  have g37 := idx_of g37 (by omega)
  have hz0 : hz.length = 32 := rfl
  have a33 : ∀ r, List.take 33 (hc (sumS (encT t)) ++ r) = hc (sumS (encT t)) ++ List.take 1 r := fun r => tkn hsl r 1
  have a34 : ∀ r, List.take 34 (hc (sumS (encT t)) ++ r) = hc (sumS (encT t)) ++ List.take 2 r := fun r => tkn hsl r 2
  have a36 : ∀ r, List.take 36 (hc (sumS (encT t)) ++ r) = hc (sumS (encT t)) ++ List.take 4 r := fun r => tkn hsl r 4
  have a37 : ∀ r, List.take 37 (hc (sumS (encT t)) ++ r) = hc (sumS (encT t)) ++ List.take 5 r := fun r => tkn hsl r 5
  have a38 : ∀ r, List.take 38 (hc (sumS (encT t)) ++ r) = hc (sumS (encT t)) ++ List.take 6 r := fun r => tkn hsl r 6
  have b33 : ∀ r, List.drop 33 (hc hz ++ r) = List.drop 1 r := fun r => drn hz0 r 1
  have b38 : ∀ r, List.drop 38 (hc hz ++ r) = List.drop 6 r := fun r => drn hz0 r 6
  have c34 : ∀ r, List.drop 34 (hc (sumS (encT t)) ++ r) = List.drop 2 r := fun r => drn hsl r 2
  have c36 : ∀ r, List.drop 36 (hc (sumS (encT t)) ++ r) = List.drop 4 r := fun r => drn hsl r 4
  have c37 : ∀ r, List.drop 37 (hc (sumS (encT t)) ++ r) = List.drop 5 r := fun r => drn hsl r 5
  have c38 : ∀ r, List.drop 38 (hc (sumS (encT t)) ++ r) = List.drop 6 r := fun r => drn hsl r 6
  simp [cv, I, l0, g76, g78, g79, g36, g37, iC, txC, -errV_0]
  refine call0 (TxAt_ok t 0 hOk.1 hOs.1 hOs.2) (by simp [TXv, txC, I, iC]) ?_
  rintro z H' ⟨rfl, rfl⟩
  refine ⟨.inl (by simp [PtV]), le_ok rfl, ?_⟩
  simp [PtV, hpt, hsl, hz0, a33, a34, a36, a37, a38, b33, b38, c34, c36, c37, c38, iC, l0, g76, g78, g79, g36, g37, -errV_0]
  simp [la, ta, kp, lv, tv, kv, kv', a38, hsl, hz0, l0, t0, txC, iC, I, cv, -errV_0]
  refine call0 (num_e ae) (by simp) ?_
  rintro z H' ⟨rfl, rfl⟩
  refine ⟨.inl (by simp [I]), le_ok rfl, ?_⟩
  simp [la, ta, kp, lv, tv, kv, kv', a38, hsl, hz0, l0, t0, txC, iC, I, cv, -errV_0]
  refine call0 (TEncode_ok t hOk.1 hOk.2.1 hOk.2.2) (by simp [TXv, txC, iC]) ?_
  rintro z H' ⟨rfl, rfl⟩
  refine ⟨.inl (by simp [Bs]), le_ok rfl, ?_⟩
  simp [Bs, la, ta, kp, lv, tv, kv, kv', a38, hsl, hz0, l0, t0, txC, iC, I, cv, -errV_0]
  refine call0 (RTEncode_ok t hOk.1 hOk.2.1 hOk.2.2) (by simp [TXv, txC, iC]) ?_
  rintro z H' ⟨rfl, rfl⟩
  refine ⟨.inl (by simp [Bs]), le_ok rfl, ?_⟩
  simp [Bs, la, ta, kp, lv, tv, kv, kv', a38, hsl, hz0, l0, t0, txC, iC, I, cv, -errV_0]
  refine call0 (num_e eo) (by simp) ?_
  rintro z H' ⟨rfl, rfl⟩
  refine ⟨.inl (by simp [I]), le_ok rfl, ?_⟩
  simp [la, ta, kp, lv, tv, kv, kv', a38, hsl, hz0, l0, t0, txC, iC, I, cv, -errV_0]
  refine call0 (num_e 0) (by simp [-errV_0]) ?_
  rintro z H' ⟨rfl, rfl⟩
  refine ⟨.inl (by simp [I]), le_ok rfl, ?_⟩
  simp [RVv, l0, t0, I, cv, -errV_0]
  refine call0 (RCheckV_ok r hr) (by simp [RVv]) ?_
  rintro z H' ⟨rfl, rfl⟩
  refine ⟨.inl (by simp [I]), le_ok rfl, ?_⟩
  simp [I, cv, -errV_0]
  refine call0 sure_ok (by simp) ?_
  rintro z H' ⟨rfl, rfl⟩
  refine ⟨.inl (by simp), le_ok rfl, ?_⟩
  simp [-errV_0]
  exact fin0
 ·rw [if_neg cv] at hvo lv tv
  obtain ⟨K, hK⟩ : ∃ K, litK (unrle [(32, .u8), (6, .i64)]) (prmC zPrm) = some K := ⟨_, litK_m hvo⟩
  have kv := hK
  have kv' : litK (unrle [(32, .u8), (6, .i64)]) (hc hz ++ [EC.fz (.lit (.int .i64 0)), EC.fz (.lit (.int .i64 0)), EC.fz (.lit (.int .i64 0)), EC.fz (.lit (.int .i64 0)), EC.fz (.lit (.int .i64 0)), EC.fz (.lit (.int .i64 0))]) = some K := hK
  have a38 : List.take 38 (hc hz ++ [EC.fz (.lit (.int .i64 0)), EC.fz (.lit (.int .i64 0)), EC.fz (.lit (.int .i64 0)), EC.fz (.lit (.int .i64 0)), EC.fz (.lit (.int .i64 0)), EC.fz (.lit (.int .i64 0))]) = hc hz ++ [EC.fz (.lit (.int .i64 0)), EC.fz (.lit (.int .i64 0)), EC.fz (.lit (.int .i64 0)), EC.fz (.lit (.int .i64 0)), EC.fz (.lit (.int .i64 0)), EC.fz (.lit (.int .i64 0))] := rfl
  have hz0 : hz.length = 32 := rfl
  have hsl := hz0
  simp [cv, I, -errV_0]
  simp [la, ta, kp, lv, tv, kv, kv', a38, hsl, hz0, l0, t0, txC, iC, I, cv, -errV_0]
  refine call0 (num_e ae) (by simp) ?_
  rintro z H' ⟨rfl, rfl⟩
  refine ⟨.inl (by simp [I]), le_ok rfl, ?_⟩
  simp [la, ta, kp, lv, tv, kv, kv', a38, hsl, hz0, l0, t0, txC, iC, I, cv, -errV_0]
  refine call0 (TEncode_ok t hOk.1 hOk.2.1 hOk.2.2) (by simp [TXv, txC, iC]) ?_
  rintro z H' ⟨rfl, rfl⟩
  refine ⟨.inl (by simp [Bs]), le_ok rfl, ?_⟩
  simp [Bs, la, ta, kp, lv, tv, kv, kv', a38, hsl, hz0, l0, t0, txC, iC, I, cv, -errV_0]
  refine call0 (RTEncode_ok t hOk.1 hOk.2.1 hOk.2.2) (by simp [TXv, txC, iC]) ?_
  rintro z H' ⟨rfl, rfl⟩
  refine ⟨.inl (by simp [Bs]), le_ok rfl, ?_⟩
  simp [Bs, la, ta, kp, lv, tv, kv, kv', a38, hsl, hz0, l0, t0, txC, iC, I, cv, -errV_0]
  refine call0 (num_e eo) (by simp) ?_
  rintro z H' ⟨rfl, rfl⟩
  refine ⟨.inl (by simp [I]), le_ok rfl, ?_⟩
  simp [la, ta, kp, lv, tv, kv, kv', a38, hsl, hz0, l0, t0, txC, iC, I, cv, -errV_0]
  refine call0 (num_e (chkV r)) (by simp [-errV_0]) ?_
  rintro z H' ⟨rfl, rfl⟩
  refine ⟨.inl (by simp [I]), le_ok rfl, ?_⟩
  simp [RVv, l0, t0, I, cv, -errV_0]
  refine call0 (RCheckV_ok r hr) (by simp [RVv]) ?_
  rintro z H' ⟨rfl, rfl⟩
  refine ⟨.inl (by simp [I]), le_ok rfl, ?_⟩
  simp [I, cv, -errV_0]
  refine call0 sure_ok (by simp) ?_
  rintro z H' ⟨rfl, rfl⟩
  refine ⟨.inl (by simp), le_ok rfl, ?_⟩
  simp [-errV_0]
  exact fin0
theorem helF_fz (p : Prm) (s : Sta) (o d : Int) (lock : List UInt8) : (helF p s o d lock).map EC.fz = helC p s o d lock := by
 unfold helF helC
 rw [List.map_append, prmF_fz, List.map_append]
 simp [staF, staC, iF, iC]
theorem opn_held : Opn BB Tryz.prog 85 (fun q : Prm × Sta × Int × Int × List UInt8 => helF q.1 q.2.1 q.2.2.1 q.2.2.2.1 q.2.2.2.2) (fun q => q.1.ok ∧ q.2.1.ok0 ∧ i64 q.2.2.1 ∧ i64 q.2.2.2.1 ∧ q.2.2.2.2.length = 32) (fun q => staB q.2.1) :=
 (opn_struct (tot := 77) bok Tryz.underlying85 (by kernel_rfl)
  (opnFs_cons bok (n := 38) (tot := 39) opn_prm rfl (by kernel_rfl) (opnFs_cons bok (n := 5) (tot := 34) opn_sta rfl (by kernel_rfl) (opnFs_cons bok (n := 1) (tot := 33) opn_i64 rfl (by kernel_rfl)
   (opnFs_cons bok (n := 1) (tot := 32) opn_i64 rfl (by kernel_rfl) (opnFs_cons bok (n := 32) (tot := 0) opn_hash rfl (by kernel_rfl) opnFs_nil)))))).map
  (fun q => (q.1, q.2.1, q.2.2.1, q.2.2.2.1, q.2.2.2.2.1)) (by rintro ⟨a, b, c, d, e, u⟩ _; simp [helF, iF]) (by rintro ⟨a, b, c, d, e, u⟩ h; exact ⟨h.1, h.2.1, h.2.2.1, h.2.2.2.1, h.2.2.2.2.1⟩) (by rintro ⟨a, b, c, d, e, u⟩ _; simp; try omega)
theorem opn_pts : Opn BB Tryz.prog 86 (fun q : Pt × Pt => ptF' q.1 ++ ptF' q.2) (fun q => Ptok q.1 ∧ Ptok q.2) (fun _ => 1) :=
 (opn_array bok (e := 25) (es := 33) (n := 2) (by kernel_rfl) (by kernel_rfl) (by kernel_rfl) opn_outV).map (fun l => (l[0]?.getD ([], 0), l[1]?.getD ([], 0))) (by
  rintro l ⟨_, h⟩
  match l, h with
  | [a, b], _ => simp [ptF', iF]) (by
  rintro l ⟨h1, h⟩
  match l, h, h1 with
  | [a, b], _, h1 => exact ⟨h1 a (by simp), h1 b (by simp)⟩) (fun _ _ => by omega)
theorem pts_fz (x y : Pt) : (ptF' x ++ ptF' y).map EC.fz = ptC x ++ ptC y := by rw [List.map_append, ptF_fz, ptF_fz]
def zHelV : Value := .agg (Array.replicate 32 (.int .u8 0) ++ #[.int .i64 0, .int .i64 0, .int .i64 0, .int .i64 0, .int .i64 0, .int .i64 0, .int .i64 0, .int .i64 0, .int .i64 0, .slice none 0 0, .slice none 0 0, .int .i64 0, .int .i64 0] ++ Array.replicate 32 (.int .u8 0))
def zHelD {H : Type} : DataW H := .agg [zPrmD, .agg [.lit (.int .i64 0), .agg [.lit (.int .i64 0), .lit (.int .i64 0)], .nil, .nil], .lit (.int .i64 0), .lit (.int .i64 0), .agg (List.replicate 32 (.lit (.int .u8 0)))]
def zPtsV : Value := .agg (Array.replicate 32 (.int .u8 0) ++ #[.int .i64 0] ++ Array.replicate 32 (.int .u8 0) ++ #[.int .i64 0])
def zPtsD {H : Type} : DataW H := .agg [zPtD, zPtD]
end Go.Proofs.YtejjhgdnmknejaaGreatDoor
