import Derived.Test.YtddcceahaigodaaGreatDoorAll7
import Derived.Test.YtddcceahaigodaaGreatDoorAll6
import Derived.WalkKit
import Derived.Deep.RegionLaw
import Derived.Lib.SliceRun
import Derived.Lib.Overlaps
import Derived.Lib.AppendZeros
import Derived.Lib.AppendZerosOnto
import Derived.Laws.Externs
import Derived.Test.YtddcceahaigodaaGreatDoorProg
set_option maxHeartbeats 64000000
namespace Go.Proofs.YtddcceahaigodaaGreatDoor
open Go Go.EW
set_option linter.unusedSimpArgs false
set_option linter.unusedVariables false
def yl1ge : UL | _ => [xW 0 1 42 0, xQ 1 2 (.alloc 42 [xZ, xZ, xZ, xS, xS]), xQ 2 3 (.mov (.k .nilIface))]
def yl1gf : UL | _ => [xG 6 11 8 false (.bin .eql (.t 10) (xK 1099511627776)), xP 7 12 8 11]
def yl1gg : UL | _ => xD 0 5 5 1 :: xO 1 6 (.call 95 [.t 5]) :: xQ 2 7 (.un .not (.t 6)) :: xM 3 8 7 :: yF 4 9 8 false 0 1 :: yL 5 10 8 false 9 :: hid yl1gf
def yl1gh : UL | _ => [xQ 0 13 (.build [xZ, xZ, xZ, xS, xS] []), xQ 1 14 (.mki 121 (xK 1)), xN 2 (.fz (.sto 5 (.t 2) (.t 13))), xM 3 3 14]
def yl1gj : UL | _ => [xF 0 15 0 1, xL 1 16 15, xc 2 17 .add 16 1, xF 3 18 0 1, xN 4 (.sto 1 (.t 18) (.t 17))]
def yl1gk : UL | _ => [⟨5, (some 24), none, (.call 71 [.t 23]), [6]⟩, xN 7 (.fz (.sto 1 (.t 25) (.t 21))), xF 8 26 4 1, xN 9 (.fz (.sto 1 (.t 26) (.t 24)))]
def yl1gl : UL | _ => xF 0 19 3 1 :: xL 1 20 19 :: xF 3 22 4 1 :: xL 4 23 22 :: ⟨2, (some 21), none, (.call 70 [.t 20]), [3, 4]⟩ :: xF 6 25 3 1 :: hid yl1gk
def yl1gp : UL | _ => [xN 12 (.fz (.sto 1 (.t 44) (.t 42)))]
def yl1gq : UL | _ => xI 6 39 3 37 38 :: xF 7 40 2 39 :: xL 8 41 40 :: ⟨9, (some 42), none, (.call 56 [.t 41]), [0, 1, 2]⟩ :: xI 10 43 3 34 35 :: xF 11 44 2 43 :: hid yl1gp
def yl1gr : UL | _ => xF 0 33 4 1 :: xL 1 34 33 :: xM 2 35 4 :: xF 3 36 4 1 :: xL 4 37 36 :: xM 5 38 4 :: hid yl1gq
def yb1gu : UB | _ => .seq (reg0 [xb 0 31 .lss 30 29] 1) (.seq (.cond (.t 31) .skip (.exit 0)) (.seq (.block 1 (.seq (reg0 [xM 0 32 30, xM 1 4 32] 2) (reg1 (hid yl1gr) 13))) (reg0 [xc 0 45 .add 30 1, xM 1 30 45] 2)))
def yl1gv : UL | _ => [xD 0 46 5 1, xN 1 (.fz (.sto 5 (.t 2) (.t 46))), xQ 2 3 (.mov (.k .nilIface))]
def yb1gw : UB | _ => .seq (.seq (reg0 [xF 0 27 4 1, xL 1 28 27, xE 2 29 28, xC 3 30 0] 4) (.block 0 (.loop (hid yb1gu)))) (.seq (reg0 (hid yl1gv) 3) .ret)
def yb1gx : UB | _ => .seq (reg0 (hid yl1gj) 5) (.seq (reg1 (hid yl1gl) 10) (hid yb1gw))
def yb1gy : UB | _ => .seq (reg0 (hid yl1ge) 3) (.seq (.seq (reg0 (hid yl1gg) 8) (.cond (.t 12) (.seq (reg0 (hid yl1gh) 4) .ret) .skip)) (hid yb1gx))
attribute [simp] yl1ge yl1gf yl1gg yl1gh yl1gj yl1gk yl1gl yl1gp yl1gq yl1gr yb1gu yl1gv yb1gw yb1gx yb1gy
def c_next : EB × List QOp × Nat := ((hid yb1gy), [(.lda 5 (.t 2)), (.mov (.t 3))], 47)
theorem k_next : cfun Tryz.prog 137 = some c_next := by kernel_rfl
def yl1gz : UL | _ => [xW 0 3 42 0, xQ 1 6 (.alloc 42 [xZ, xZ, xZ, xS, xS]), xQ 2 7 (.mov (.k .nilIface))]
def yl1h0 : UL | _ => [xN 6 (.fz (.sto 5 (.t 8) (.t 13))), xM 7 9 14]
def yl1h1 : UL | _ => xD 0 11 5 3 :: xO 1 12 (.call 137 [.t 11]) :: xM 2 10 12 :: xX 3 13 0 10 :: xX 4 14 1 10 :: xQ 5 8 (.alloc 42 [xZ, xZ, xZ, xS, xS]) :: hid yl1h0
def yl1h3 : UL | _ => [xQ 0 18 (.build [xZ, xZ, xZ, xS, xS] []), xM 1 19 9, xN 2 (.fz (.sto 5 (.t 6) (.t 18))), xM 3 7 19]
def yl1h4 : UL | _ => [xM 0 21 1, xO 1 22 (.call 138 [.t 21]), xQ 2 23 (.un .not (.t 22)), xM 3 20 23]
def yl1h5 : UL | _ => [xQ 0 24 (.build [xZ, xZ, xZ, xS, xS] []), xQ 1 25 (.mki 121 (xK 33)), xN 2 (.fz (.sto 5 (.t 6) (.t 24))), xM 3 7 25]
def yl1h6 : UL | _ => [xb 6 33 .lss 27 32, xM 7 26 33]
def yl1h7 : UL | _ => xM 0 27 2 :: xM 1 28 1 :: xF 2 29 1 8 :: xQ 3 30 (.iad 2 1 (.t 29) (.t 28)) :: xL 4 31 30 :: xQ 5 32 (.un .neg (.t 31)) :: hid yl1h6
def yl1h8 : UL | _ => [xQ 0 34 (.build [xZ, xZ, xZ, xS, xS] []), xQ 1 35 (.mki 121 (xK 20)), xN 2 (.fz (.sto 5 (.t 6) (.t 34))), xM 3 7 35]
def yl1h9 : UL | _ => [xM 0 37 2, xD 1 38 5 8, xO 2 39 (.call 50 [.t 38]), xQ 3 40 (.bin .sub (xK 1125899906842624) (.t 39)), xb 4 41 .gtr 37 40, xM 5 36 41]
def yl1ha : UL | _ => [xQ 0 42 (.build [xZ, xZ, xZ, xS, xS] []), xQ 1 43 (.mki 121 (xK 5)), xN 2 (.fz (.sto 5 (.t 6) (.t 42))), xM 3 7 43]
def yb1hd : UB | _ => .seq (reg0 (hid yl1h4) 4) (.cond (.t 20) (.seq (reg0 (hid yl1h5) 4) .ret) (.seq (reg0 (hid yl1h7) 8) (.cond (.t 26) (.seq (reg0 (hid yl1h8) 4) .ret) (.seq (reg0 (hid yl1h9) 6) (.cond (.t 36) (.seq (reg0 (hid yl1ha) 4) .ret) .skip)))))
def yb1he : UB | _ => .seq (reg0 [xM 0 16 9, xQ 1 17 (.eqi true (.t 16)), xM 2 15 17] 3) (.cond (.t 15) (.seq (reg0 (hid yl1h3) 4) .ret) (hid yb1hd))
def yl1hf : UL | _ => [xF 6 50 1 8, xQ 7 51 (.iad 2 1 (.t 50) (.t 44)), xN 8 (.sto 1 (.t 51) (.t 49))]
def yl1hg : UL | _ => xM 0 44 1 :: xF 1 45 1 8 :: xQ 2 46 (.iad 2 1 (.t 45) (.t 44)) :: xL 3 47 46 :: xM 4 48 2 :: xb 5 49 .add 47 48 :: hid yl1hf
def yl1hh : UL | _ => [xD 0 52 5 8, xN 1 (.fz (.sto 5 (.t 6) (.t 52))), xQ 2 7 (.mov (.k .nilIface))]
def yb1hi : UB | _ => .seq (.block 0 (hid yb1he)) (.seq (reg0 (hid yl1hg) 9) (.seq (reg0 (hid yl1hh) 3) .ret))
def yb1hj : UB | _ => .seq (reg0 (hid yl1gz) 3) (.seq (reg0 (hid yl1h1) 8) (hid yb1hi))
attribute [simp] yl1gz yl1h0 yl1h1 yl1h3 yl1h4 yl1h5 yl1h6 yl1h7 yl1h8 yl1h9 yl1ha yb1hd yb1he yl1hf yl1hg yl1hh yb1hi yb1hj
def c_Resize : EB × List QOp × Nat := ((hid yb1hj), [(.lda 5 (.t 6)), (.mov (.t 7))], 53)
theorem k_Resize : cfun Tryz.prog 94 = some c_Resize := by kernel_rfl
@[simp] theorem errV_5 : Value.iface 121 (.int .i64 5) = errV 5 := rfl
@[simp] theorem errV_20 : Value.iface 121 (.int .i64 20) = errV 20 := rfl
@[simp] theorem errV_27 : Value.iface 121 (.int .i64 27) = errV 27 := rfl
@[simp] theorem errV_33 : Value.iface 121 (.int .i64 33) = errV 33 := rfl
def zSta : Sta := ⟨0, 0, 0, [], []⟩
def nxt (s : Sta) : Sta × Nat := if mayS s = true ∧ s.num ≠ 1099511627776 then (⟨s.num + 1, s.h0, s.h1, s.pays, s.holds⟩, 0) else (zSta, 1)
def SE (q : Sta × Nat) : EV := .tup [.agg (staC q.1), .c (.fz (.lit (errV q.2)))]
theorem nxt_ok {s : Sta} (hs : s.ok) (h : mayS s = true) : (Sta.mk (s.num + 1) s.h0 s.h1 s.pays s.holds).ok := by
 obtain ⟨hr, _⟩ := mayS_t h
 exact ⟨⟨by show _ ≤ s.num + 1; omega, by show s.num + 1 ≤ _; omega⟩, hs.2⟩
theorem hol_set {l : List Hol} {i : Nat} {h : Hol} (hc : l[i]? = some h) : (holv l).set i (holF h) = holv l := by
 apply List.ext_getElem?
 intro j
 rw [List.getElem?_set]
 split
 ·rename_i e
  subst e
  split
  ·rw [holv_get hc]
  ·rename_i hn; exact absurd (by simpa using lt_len hc) hn
 ·rfl
theorem next_ok (s : Sta) (hs : s.ok) : ECalls Tryz.prog 137 [SV s] [] fun y H' => H' = [] ∧ y = SE (nxt s) := by
 obtain ⟨ok1, ok2, ok3, ok4, ok5, ok6, ok7⟩ := id hs
 refine ecalls k_next ?_
 simp [c_next, SV, staC]
 refine call0 (Smay_ok s hs) (by simp [SV, staC]) ?_
 rintro y H' ⟨rfl, rfl⟩
 cases hm : mayS s
 ·have ht : nxt s = (zSta, 1) := by simp [nxt, hm]
  rw [ht]
  simp [EV.lit]
  refine finW _ (weak_nlB (o := 16) (k := 3) 36 rfl rfl) (finW _ (weak_nlB (o := 16) (k := 4) 3 rfl rfl) ?_)
  exact fin0
 obtain ⟨hr, hp, hh, htot⟩ := mayS_t hm
 by_cases hn : s.num = 1099511627776
 ·have ht : nxt s = (zSta, 1) := by simp [nxt, hn]
  rw [ht]
  simp [EV.lit, hn]
  refine finW _ (weak_nlB (o := 16) (k := 3) 36 rfl rfl) (finW _ (weak_nlB (o := 16) (k := 4) 3 rfl rfl) ?_)
  exact fin0
 have ht : nxt s = (⟨s.num + 1, s.h0, s.h1, s.pays, s.holds⟩, 0) := by simp [nxt, hm, hn]
 rw [ht]
 have w1 : IntKind.i64.wrap (s.num + 1) = s.num + 1 := wrap_i64 (by omega) (by omega)
 simp [EV.lit, hn, w1]
 refine call0 (cloneP_ok s.pays ok6) (by simp [PL]) ?_
 rintro y H' ⟨rfl, rfl⟩
 refine ⟨.inl (by simp), le_ok rfl, ?_⟩
 simp
 refine call0 (cloneH_ok s.holds ok7) (by simp [HL]) ?_
 rintro y H' ⟨rfl, rfl⟩
 refine ⟨.inl (by simp), le_ok rfl, ?_⟩
 simp
 refine loopW _ (weak_frz (o := 288) (ty := 117) (es := 36) (xs := payv s.pays) rfl) ?_
 refine eloop (α := Nat) (fun i => i ≤ s.holds.length) (fun i => s.holds.length - i)
  (fun i => [xA, Ptr 0, Ptr 1, xA, xA, xA, xA, xA, xA, xA, xA, xA, xA, xA, xA, xA, xA, xA, xA, xA, xA, xA, xA, xA, xA, xA, xA, xA, xA, I .i64 s.holds.length, I .i64 i, xA, xA, xA, xA, xA, xA, xA, xA, xA, xA, xA, xA, xA, xA, xA, .any]) (fun i => [some (.box 42 [.fz (.lit (.int .i64 (s.num + 1))), .fz (.lit (.int .i64 s.h0)), .fz (.lit (.int .i64 s.h1)), .fz (.sl 36 (payv s.pays)), .row 2 s.holds.length]), some (.box 42 [.fz (.lit (.int .i64 0)), .fz (.lit (.int .i64 0)), .fz (.lit (.int .i64 0)), .fz (.lit (.slice none 0 0)), .fz (.lit (.slice none 0 0))]), some (.row 119 3 (holv s.holds))]) 0 [0, 16, 336]
  (Nat.zero_le _) (by simp [Ptr, I]) (by simp [List.tkL]) (by simp) (by simp) (by simp) ?_
 intro i hi
 simp [Ptr, I]
 refine alt (fun hlt => ?_) (fun hlt => ?_)
 ·obtain ⟨p, hc⟩ : ∃ p, s.holds[i]? = some p := ⟨s.holds[i], by simp [hlt]⟩
  have hpo := ok5 p (List.mgE hc)
  have hcb := holv_get hc
  have w2 := wS (i := i) (by omega)
  have hset := hol_set hc
  have hge : (holv s.holds)[i]'(by simp [hlt]) = holF p := by
   have h := hcb
   rw [List.getElem?_eq_getElem (by simp [hlt])] at h
   exact Option.some.inj h
  simp [hge, holF, hlt]
  refine call0 (cloneI_ok p.keys hpo.2.2.2) (by simp [IL]) ?_
  rintro y H' ⟨rfl, rfl⟩
  refine ⟨.inl (by simp), le_ok rfl, ?_⟩
  have hset' : (holv s.holds).set i [.lit (.int .i64 p.id), .lit (.int .i64 p.am), .sl 1 (intv p.keys)] = holv s.holds := hset
  simp [hge, holF, hlt, w2, -Int.natCast_add]
  exact round (i + 1) [0, 1, 2] (by omega) (by omega) (by simp) (by simp [hset', List.tkL]) (by simp) (by simp) (by simp)
 ·have hil : i = s.holds.length := by omega
  subst hil
  simp [-errV_0]
  refine finW _ (weak_frz (o := 2) (ty := 119) (es := 3) (xs := holv s.holds) rfl) ?_
  exact fin [] (by decide) rfl rfl rfl ⟨rfl, by simp [SE, staC, List.tkL, errV, -errV_0]⟩
def resS (s : Sta) (who n : Int) : Sta × Nat :=
 if (nxt s).2 ≠ 0 then (zSta, (nxt s).2) else if ¬ (who = 0 ∨ who = 1) then (zSta, 33)
 else if n < -(if who = 0 then s.h0 else s.h1) then (zSta, 20) else if 1125899906842624 - total s < n then (zSta, 5)
 else if who = 0 then (⟨s.num + 1, s.h0 + n, s.h1, s.pays, s.holds⟩, 0) else (⟨s.num + 1, s.h0, s.h1 + n, s.pays, s.holds⟩, 0)
theorem sum_nn : ∀ {l : List Int}, (∀ x ∈ l, 0 ≤ x) → 0 ≤ l.sum
 | [], _ => by simp
 | x :: r, h => by
  have h1 := h x (by simp)
  have h2 := sum_nn (l := r) (fun y hy => h y (by simp [hy]))
  simp; omega
theorem sumP_nn {o : Option Int} {l : List Pay} (h : payL o l = true) : 0 ≤ sumP l := sum_nn fun x hx => by
 obtain ⟨p, hp, rfl⟩ := List.mem_map.1 hx
 have := payL_am h p hp
 omega
theorem sumH_nn {o : Option Int} {l : List Hol} (h : holL o l = true) : 0 ≤ sumH l := sum_nn fun x hx => by
 obtain ⟨p, hp, rfl⟩ := List.mem_map.1 hx
 have := holL_am h p hp
 omega
theorem totS_nx {s : Sta} (h : mayS s = true ∧ s.num ≠ 1099511627776) : totS ⟨s.num + 1, s.h0, s.h1, s.pays, s.holds⟩ = total s := by
 obtain ⟨hr, hp, hh, ht⟩ := mayS_t h.1
 have hm : mayS ⟨s.num + 1, s.h0, s.h1, s.pays, s.holds⟩ = true := by
  simp only [mayS, hp, hh, Bool.and_true, Bool.and_eq_true, decide_eq_true_eq]
  refine ⟨?_, ht⟩
  have := h.2
  omega
 rw [totS, if_pos hm]
 rfl
theorem Resize_ok (s : Sta) (who n : Int) (hs : s.ok) (hf : i64 who) (hn : i64 n) : ECalls Tryz.prog 94 [SV s, I .i64 who, I .i64 n] [] fun y H' => H' = [] ∧ y = SE (resS s who n) := by
 obtain ⟨ok1, ok2, ok3, ok4, ok5, ok6, ok7⟩ := id hs
 obtain ⟨hf1, hf2⟩ := hf
 obtain ⟨hn1, hn2⟩ := hn
 refine ecalls k_Resize ?_
 simp [c_Resize, SV, staC, I]
 refine call0 (next_ok s hs) (by simp [SV, staC]) ?_
 rintro y H' ⟨rfl, rfl⟩
 refine ⟨.inl (by simp), le_ok rfl, ?_⟩
 by_cases h0 : mayS s = true ∧ s.num ≠ 1099511627776
 rotate_left
 ·have hx : nxt s = (zSta, 1) := by simp only [nxt, if_neg h0]
  rw [show resS s who n = (zSta, 1) by simp [resS, hx], hx]
  simp [SE, staC, zSta]
  refine finW _ (weak_nlB (o := 16) (k := 3) 36 rfl rfl) (finW _ (weak_nlB (o := 16) (k := 4) 3 rfl rfl) ?_)
  exact fin0
 have hx : nxt s = (⟨s.num + 1, s.h0, s.h1, s.pays, s.holds⟩, 0) := by simp only [nxt, if_pos h0]
 obtain ⟨hr, hp, hh, htot⟩ := mayS_t h0.1
 have hnok := nxt_ok hs h0.1
 have htx := totS_nx h0
 have hsp := sumP_nn hp
 have hsh := sumH_nn hh
 have htn : 0 ≤ total s := by unfold total; omega
 have hside : s.h0 ≤ total s ∧ s.h1 ≤ total s := by unfold total; omega
 rw [hx]
 simp [SE, staC]
 refine call0 (side_ok who) (by simp [I]) ?_
 rintro y H' ⟨rfl, rfl⟩
 cases hb : decide (who = 0 ∨ who = 1)
 ·have hb' := of_decide_eq_false hb
  rw [show resS s who n = (zSta, 33) by simp only [resS, hx]; rw [if_neg (by simp), if_pos hb']]
  simp [EV.lit]
  refine finW _ (weak_nlB (o := 16) (k := 3) 36 rfl rfl) (finW _ (weak_nlB (o := 16) (k := 4) 3 rfl rfl) ?_)
  exact fin0
 have hb' := of_decide_eq_true hb
 simp [EV.lit]
 rcases hb' with rfl | rfl
 ·have w0 : IntKind.i64.wrap (-s.h0) = -s.h0 := wrap_i64 (by omega) (by omega)
  simp [w0]
  refine alt (fun c2 => ?_) (fun c2 => ?_)
  ·rw [show resS s 0 n = (zSta, 20) by simp only [resS, hx]; rw [if_neg (by simp), if_neg (by simp)]; simp [c2]]
   simp
   refine finW _ (weak_nlB (o := 16) (k := 3) 36 rfl rfl) (finW _ (weak_nlB (o := 16) (k := 4) 3 rfl rfl) ?_)
   exact fin0
  simp
  refine call0 (Total_ok ⟨s.num + 1, s.h0, s.h1, s.pays, s.holds⟩ hnok) (by simp [SV, staC]) ?_
  rintro y H' ⟨rfl, rfl⟩
  have w3 : IntKind.i64.wrap (1125899906842624 - total s) = 1125899906842624 - total s := wrap_i64 (by omega) (by omega)
  simp [I, htx, w3]
  refine alt (fun c3 => ?_) (fun c3 => ?_)
  ·rw [show resS s 0 n = (zSta, 5) by simp only [resS, hx]; rw [if_neg (by simp), if_neg (by simp)]; simp [c2, c3]]
   simp
   refine finW _ (weak_nlB (o := 16) (k := 3) 36 rfl rfl) (finW _ (weak_nlB (o := 16) (k := 4) 3 rfl rfl) ?_)
   exact fin0
  have w1 : IntKind.i64.wrap (s.h0 + n) = s.h0 + n := wrap_i64 (by omega) (by omega)
  rw [show resS s 0 n = (⟨s.num + 1, s.h0 + n, s.h1, s.pays, s.holds⟩, 0) by simp only [resS, hx]; rw [if_neg (by simp), if_neg (by simp)]; simp [c2, c3]]
  simp [w1, IntKind.wrap_i64, -errV_0]
  exact fin0
 ·have w0 : IntKind.i64.wrap (-s.h1) = -s.h1 := wrap_i64 (by omega) (by omega)
  simp [w0]
  refine alt (fun c2 => ?_) (fun c2 => ?_)
  ·rw [show resS s 1 n = (zSta, 20) by simp only [resS, hx]; rw [if_neg (by simp), if_neg (by simp)]; simp [c2]]
   simp
   refine finW _ (weak_nlB (o := 16) (k := 3) 36 rfl rfl) (finW _ (weak_nlB (o := 16) (k := 4) 3 rfl rfl) ?_)
   exact fin0
  simp
  refine call0 (Total_ok ⟨s.num + 1, s.h0, s.h1, s.pays, s.holds⟩ hnok) (by simp [SV, staC]) ?_
  rintro y H' ⟨rfl, rfl⟩
  have w3 : IntKind.i64.wrap (1125899906842624 - total s) = 1125899906842624 - total s := wrap_i64 (by omega) (by omega)
  simp [I, htx, w3]
  refine alt (fun c3 => ?_) (fun c3 => ?_)
  ·rw [show resS s 1 n = (zSta, 5) by simp only [resS, hx]; rw [if_neg (by simp), if_neg (by simp)]; simp [c2, c3]]
   simp
   refine finW _ (weak_nlB (o := 16) (k := 3) 36 rfl rfl) (finW _ (weak_nlB (o := 16) (k := 4) 3 rfl rfl) ?_)
   exact fin0
  have w1 : IntKind.i64.wrap (s.h1 + n) = s.h1 + n := wrap_i64 (by omega) (by omega)
  rw [show resS s 1 n = (⟨s.num + 1, s.h0, s.h1 + n, s.pays, s.holds⟩, 0) by simp only [resS, hx]; rw [if_neg (by simp), if_neg (by simp)]; simp [c2, c3]]
  simp [w1, IntKind.wrap_i64, -errV_0]
  exact fin0
end Go.Proofs.YtddcceahaigodaaGreatDoor
namespace Go.EW
set_option linter.unusedVariables false
set_option linter.unusedSimpArgs false
open Go Go.Lib
variable {P : Program}
structure ElemT (P : Program) (tS e : TypeId) (es bytes : Nat) (ti : TypeInfo) (z : Value) : Prop where
 u : P.underlying tS = some (.slice e)
 hi : P.info? e = some ti
 hz : ti.zero = some z
 hs : ti.size = es
 hb : ti.bytes = bytes
 zs : z.cells.size = es
 zo : ∀ u ∈ z.cells.toList, u.oneCell' = true
 pos : 0 < es
end Go.EW
set_option linter.unusedVariables false
set_option linter.unusedSimpArgs false
namespace Go.Proofs.YtddcceahaigodaaGreatDoor
open Go.RowKit Go.Lib Go.EW
namespace InsP
end InsP
end Go.Proofs.YtddcceahaigodaaGreatDoor
namespace Go.Proofs.YtddcceahaigodaaGreatDoor
open Go Go.EW
set_option linter.unusedSimpArgs false
set_option linter.unusedVariables false
def yb1hm : UB | _ => .seq (reg0 [xQ 0 2 (.mov (.k (.bool false)))] 1) (.seq (reg0 [xM 0 3 0, xM 1 4 0, xb 2 5 .neq 3 4, xM 3 2 5] 4) .ret)
attribute [simp] yb1hm
def c_NaNI : EB × List QOp × Nat := ((hid yb1hm), [(.mov (.t 2))], 6)
theorem k_NaNI : cfun Tryz.prog 155 = some c_NaNI := by kernel_rfl
@[simp] theorem conAll_payC (H : Nat → Option EO) (ids : List Nat) (p : Pay) : conAll H ids (payC p) = some (payC p) := by simp [payC]
@[simp] theorem strAll_payC (ids : List Nat) (p : Pay) : strAll ids (payC p) = some (payC p) := by simp [payC, strAll, strC]
@[simp] theorem frzAll_payC (p : Pay) : frzAll (payC p) = some (payF p) := by simp [payC, payF, frzAll, frz]
@[simp] theorem refs_payC (p : Pay) : (payC p).flatMap refsC = [] := by simp [payC]
@[simp] theorem fz_payC (ids : List Nat) (p : Pay) : (payC p).flatMap (fzC ids) = [] := by simp [payC]
@[simp] theorem ren_payC (g : Nat → Nat) (p : Pay) : (payC p).map (renC g) = payC p := by simp [payC]
theorem pc0 (p : Pay) : (payC p)[0]? = some (.fz (.lit (.int .i64 p.id))) := rfl
def posI (l : List Int) (x : Int) : Nat := (l.takeWhile fun k => decide (k < x)).length
theorem posI_eq : ∀ {l : List Int} {x : Int} {i : Nat}, i ≤ l.length → (∀ k y, k < i → l[k]? = some y → y < x) → (∀ y, l[i]? = some y → x ≤ y) → posI l x = i
 | [], x, i, h, _, _ => by simp at h; subst h; rfl
 | a :: r, x, 0, _, _, h => by
  have := h a rfl
  simp [posI, List.takeWhile_cons, show ¬ a < x by omega]
 | a :: r, x, i + 1, h0, h1, h2 => by
  have := h1 0 a (by omega) rfl
  have ih := posI_eq (l := r) (x := x) (i := i) (by simpa using h0) (fun k y hk hy => h1 (k + 1) y (by omega) (by simpa using hy)) (fun y hy => h2 y (by simpa using hy))
  unfold posI at ih ⊢
  simp [List.takeWhile_cons, this, ih]
theorem NaNI_ok (a : Int) : ECalls Tryz.prog 155 [I .i64 a] [] fun y H' => H' = [] ∧ y = .lit (.bool false) := by
 refine ecalls k_NaNI ?_
 simp [c_NaNI, I]
 exact fin0
@[simp] theorem errV_9 : Value.iface 121 (.int .i64 9) = errV 9 := rfl
@[simp] theorem errV_30 : Value.iface 121 (.int .i64 30) = errV 30 := rfl
@[simp] theorem errV_8 : Value.iface 121 (.int .i64 8) = errV 8 := rfl
variable {α : Type}
@[simp] theorem conAll_holC (H : Nat → Option EO) (ids : List Nat) (p : Hol) : conAll H ids (holC p) = some (holC p) := by simp [holC]
@[simp] theorem strAll_holC (ids : List Nat) (p : Hol) : strAll ids (holC p) = some (holC p) := by simp [holC, strAll, strC]
@[simp] theorem frzAll_holC (p : Hol) : frzAll (holC p) = some (holF p) := by simp [holC, holF, frzAll, frz]
@[simp] theorem refs_holC (p : Hol) : (holC p).flatMap refsC = [] := by simp [holC]
@[simp] theorem fz_holC (ids : List Nat) (p : Hol) : (holC p).flatMap (fzC ids) = [] := by simp [holC]
@[simp] theorem ren_holC (g : Nat → Nat) (p : Hol) : (holC p).map (renC g) = holC p := by simp [holC]
theorem holL_lo : ∀ {o : Option Int} {l : List Hol}, holL o l = true → ∀ p ∈ l, ∀ q, o = some q → q < p.id
 | o, [], _, p, hp, q, _ => by simp at hp
 | o, a :: r, h, p, hp, q, hq => by
  simp only [holL, Bool.and_eq_true] at h
  have ha : q < a.id := by
   have := h.1.2
   rw [hq] at this
   exact of_decide_eq_true this
  rcases List.mem_cons.1 hp with rfl | hp
  ·exact ha
  ·have := holL_lo h.2 p hp a.id rfl
   omega
end Go.Proofs.YtddcceahaigodaaGreatDoor
