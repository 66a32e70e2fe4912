import Derived.Test.YtddcceahaigodaaGreatDoorAll14
import Derived.Test.YtddcceahaigodaaGreatDoorAll15
set_option maxHeartbeats 64000000
namespace Go.Proofs.YtddcceahaigodaaGreatDoor
open Go Go.EW
set_option linter.unusedSimpArgs false
set_option linter.unusedVariables false
def ylle : UL | _ => [xM 6 5 11]
def yllf : UL | _ => xM 0 6 1 :: xc 1 7 .lss 6 0 :: xM 2 8 7 :: yM 3 9 8 false 1 :: xG 4 10 8 false (.bin .gtr (.t 9) (xK 1)) :: xP 5 11 8 10 :: hid ylle
def yllh : UL | _ => [xM 0 14 1, xF 1 15 47 2, xQ 2 16 (.iad 2 1 (.t 15) (.t 14)), xL 3 17 16, xM 4 13 17]
def yblk : UB | _ => .seq (reg0 (hid yllf) 7) (.cond (.t 5) (.seq (reg0 [xQ 0 12 (.mki 121 (xK 33)), xM 1 4 12] 2) .ret) (.seq (reg0 (hid yllh) 5) (.cond (.t 13) (.seq (reg0 [xQ 0 18 (.mki 121 (xK 31)), xM 1 4 18] 2) .ret) .skip)))
def yblm : UB | _ => .seq (reg0 [xW 0 2 49 0, xQ 1 4 (.mov (.k .nilIface))] 2) (.seq (.block 0 (hid yblk)) (.seq (reg0 [xQ 0 4 (.mov (.k .nilIface))] 1) .ret))
attribute [simp] ylle yllf yllh yblk yblm
def c_SOpen : EB × List QOp × Nat := ((hid yblm), [(.mov (.t 4))], 19)
theorem k_SOpen : cfun Tryz.prog 68 = some c_SOpen := by kernel_rfl
def yllo : UL | _ => [xF 0 4 0 2, xD 1 5 33 4, xD 2 6 33 1, xQ 3 7 (.eqw false [(32, .u8), (1, .i64)] (.t 5) (.t 6)), xM 4 3 7]
def yblp : UB | _ => .seq (reg0 [xW 0 2 102 0, xQ 1 3 (.mov (.k (.bool false)))] 2) (.seq (reg0 (hid yllo) 5) .ret)
attribute [simp] yllo yblp
def c_SHc : EB × List QOp × Nat := ((hid yblp), [(.mov (.t 3))], 8)
theorem k_SHc : cfun Tryz.prog 120 = some c_SHc := by kernel_rfl
def yllu : UL | _ => [xM 0 11 1, xM 1 12 0, xM 2 13 5, xI 3 14 34 12 13, xD 4 15 34 14, xO 5 16 (.clo (.t 11) [.t 15])]
def yblz : UB | _ => .seq (reg0 [xb 0 9 .lss 8 7] 1) (.seq (.cond (.t 9) .skip (.exit 0)) (.seq (.block 1 (.seq (reg0 [xM 0 10 8, xM 1 5 10] 2) (.seq (reg0 (hid yllu) 6) (.cond (.t 16) (.seq (reg0 [xM 0 17 5, xM 1 4 17] 2) .ret) .skip)))) (reg0 [xc 0 18 .add 8 1, xM 1 8 18] 2)))
def ybm1 : UB | _ => .seq (.seq (reg0 [xM 0 6 0, xE 1 7 6, xC 2 8 0] 3) (.block 0 (.loop (hid yblz)))) (.seq (reg0 [xQ 0 4 (.mov (.k (.int .i64 (-1))))] 1) .ret)
def ybm2 : UB | _ => .seq (reg0 [xC 0 4 0] 1) (hid ybm1)
attribute [simp] yllu yblz ybm1 ybm2
def c_IdxC : EB × List QOp × Nat := ((hid ybm2), [(.mov (.t 4))], 19)
theorem k_IdxC : cfun Tryz.prog 166 = some c_IdxC := by kernel_rfl
def ylm4 : UL | _ => [xM 0 5 0, xM 1 6 1, xO 2 7 (.call 166 [.t 5, .t 6]), xc 3 8 .geq 7 0, xM 4 4 8]
def ybm5 : UB | _ => .seq (reg0 [xQ 0 4 (.mov (.k (.bool false)))] 1) (.seq (reg0 (hid ylm4) 5) .ret)
attribute [simp] ylm4 ybm5
def c_ConC : EB × List QOp × Nat := ((hid ybm5), [(.mov (.t 4))], 9)
theorem k_ConC : cfun Tryz.prog 121 = some c_ConC := by kernel_rfl
def zPrm : Prm := ⟨hz, 0, 0, 0, 0, 0, 0⟩
def zDea : Dea := ⟨zPrm, zSta, [], [], [], [], false, false⟩
def spO (d : Dea) (side : Int) : Nat := if side = 0 then (if d.r0 = true then 31 else 0) else if side = 1 then (if d.r1 = true then 31 else 0) else 33
def ptL (tx : List UInt8) (n : Int) : List Int := tx.map (fun b => (b.toNat : Int)) ++ [n]
def hasL (tx : List UInt8) (n : Int) (l : List Coi) : Bool := l.any fun c => decide (ptL c.tx c.n = ptL tx n)
def spH (d : Dea) (c : Coi) : Bool := decide (ptL d.p.tx d.p.n = ptL c.tx c.n) || (hasL c.tx c.n d.i0 || hasL c.tx c.n d.i1)
theorem litK_ptL {tx : List UInt8} {n : Int} (h : tx.length = 32) (hn : i64 n) : litK (unrle [(32, .u8), (1, .i64)]) (hc tx ++ [iC n]) = some (ptL tx n) :=
 litK_pt (x := ⟨tx, n, 0, []⟩) ⟨h, hn, by simp [i64], by simp⟩
@[simp] theorem errV_31 : Value.iface 121 (.int .i64 31) = errV 31 := rfl
theorem SOpen_ok (d : Dea) (side : Int) (hd : d.ok) (hs : i64 side) : ECalls Tryz.prog 68 [DV d, I .i64 side] [] fun y H' => H' = [] ∧ y = .lit (errV (spO d side)) := by
 have lp := prmC_len hd.1.1
 have pT := pmT lp
 have pD := pmD lp
 have pG := pmG lp
 refine ecalls k_SOpen ?_
 simp only [DV, deaC, deaT, staC, bC]
 generalize prmC d.p = L at lp pT pD pG ⊢
 by_cases c0 : side = 0
 ·subst c0
  simp [c_SOpen, I, lp, pT, pD, pG, spO]
  cases hr : d.r0
  ·simp
   exact fin0
  ·simp
   exact fin0
 by_cases c1 : side = 1
 ·subst c1
  simp [c_SOpen, I, lp, pT, pD, pG, spO]
  cases hr : d.r1
  ·simp
   exact fin0
  ·simp
   exact fin0
 have e : spO d side = 33 := by simp [spO, c0, c1]
 rw [e]
 by_cases c2 : side < 0
 ·simp [c_SOpen, I, lp, pT, pD, pG, c2]
  exact fin0
 ·have c3 : 1 < side := by omega
  simp [c_SOpen, I, lp, pT, pD, pG, c2, c3]
  exact fin0
def BPt (tx : List UInt8) (n : Int) : EO := .box 36 (hc tx ++ [iC n])
section
variable {c : Coi} (h : c.tx.length = 32)
include h
theorem coiC_len : (coiC c).length = 34 := by simp [coiC, h]
theorem coiF_len : (coiF c).length = 34 := by simp [coiF, hf, h]
theorem coi_take : (coiC c).take 34 = coiC c := List.tkL (by rw [coiC_len h]; omega)
theorem coi_33 : (coiC c).take 33 = hc c.tx ++ [iC c.n] := by
 have e : (hc c.tx).length = 32 := by rw [hc_len, h]
 unfold coiC
 rw [List.take_append, List.tkL (by omega), e]; rfl
theorem coi_am : (coiC c)[33]? = some (iC c.am) := by
 have e : (hc c.tx).length = 32 := by rw [hc_len, h]
 unfold coiC
 rw [List.getElem?_append_right (by omega), e]; rfl
end
theorem SHc_body : bodyOK Tryz.prog 120 = true := by kernel_rfl
theorem SHc_ok (tx : List UInt8) (n : Int) (c : Coi) (h1 : tx.length = 32) (h2 : i64 n) (hc' : c.ok) : ECalls Tryz.prog 120 [.v (.agg (coiC c)), .v (.c (.ptr 0 0))] [BPt tx n] fun y H' => H' = [some (BPt tx n)] ∧ y = .lit (.bool (decide (ptL c.tx c.n = ptL tx n))) := by
 have t33 := coi_33 hc'.1
 have l34 := coiC_len hc'.1
 have k1 := litK_ptL hc'.1 hc'.2.1
 have k2 := litK_ptL h1 h2
 have e : (hc tx ++ [iC n]).take 33 = hc tx ++ [iC n] := List.tkL (by simp [h1])
 refine ecalls k_SHc ?_
 simp [c_SHc, BPt, l34, t33, k1, k2, e, h1]
 exact fin [] (by decide) rfl rfl (by simp [objsOut, iC, show List.range 1 = [0] from rfl]) ⟨rfl, rfl⟩
theorem IdxC_ok (tx : List UInt8) (n : Int) (l : List Coi) (h1 : tx.length = 32) (h2 : i64 n) (hl : ∀ c ∈ l, c.ok) (hn : l.length ≤ 100000) : ECalls Tryz.prog 166 [.v (.c (.fz (.sl 34 (coiv l)))), .v (.c (.clo 120 [(0, 0)]))] [BPt tx n] fun y H' => H' = [some (BPt tx n)] ∧ ∃ i : Int, y = I .i64 i ∧ (0 ≤ i ↔ hasL tx n l = true) := by
 refine ecalls k_IdxC ?_
 simp [c_IdxC, I]
 refine eloop (α := Nat) (fun i => i ≤ l.length ∧ hasL tx n (l.take i) = false) (fun i => l.length - i)
  (fun i => [.v (.c (.fz (.sl 34 (coiv l)))), .v (.c (.clo 120 [(0, 0)])), .any, .any, .any, .any, .any, I .i64 l.length, I .i64 i, .any, .any, .any, .any, .any, .any, .any, .any, .any, .any]) (fun _ => [some (BPt tx n)]) 0 [0]
  ⟨Nat.zero_le _, by simp [hasL]⟩ (by simp [I]) (by simp [BPt, iC]) (by simp [BPt, iC]) (by simp) (by simp) ?_
 rintro i ⟨hi, hi2⟩
 simp [I, BPt, iC]
 refine alt (fun hlt => ?_) (fun hlt => ?_)
 ·have hln : i < l.length := by omega
  obtain ⟨c, hcc⟩ : ∃ c, l[i]? = some c := ⟨l[i], by simp [hln]⟩
  have hge : (coiv l)[i]'(by simp [hln]) = coiF c := gE (coiv_get hcc)
  have w4 := wS (i := i) (by omega)
  have hco := hl c (List.mgE hcc)
  have hfl := coiF_len hco.1
  have hcl := coiC_len hco.1
  have htk := coi_take hco.1
  simp [hln, hge, hfl, coiF_fz, htk, hcl]
  refine ⟨SHc_body, ?_⟩
  refine callH [0] (SHc_ok tx n c h1 h2 hco) (by simp) (by simp [BPt, iC]) (by simp) (by simp) (by simp) ?_
  rintro y H' ⟨rfl, rfl⟩
  refine ⟨.inl (by simp [-List.flatMap_eq_nil_iff]), by simp, ?_⟩
  by_cases hq : ptL c.tx c.n = ptL tx n
  ·simp [BPt, iC, hq, w4, -Int.natCast_add]
   refine fin [] (by decide) rfl rfl (by simp [objsOut, iC, show List.range 1 = [0] from rfl]) ⟨rfl, (i : Int), rfl, ?_⟩
   have : hasL tx n l = true := by
    rw [hasL, List.any_eq_true]
    exact ⟨c, List.mgE hcc, by simp [hq]⟩
   simp [this]
  ·simp [BPt, iC, hq, w4, -Int.natCast_add]
   refine round (i + 1) [0] ⟨by omega, ?_⟩ (by omega) (by simp [I]) (by simp [BPt, iC]) (by simp [BPt, iC]) (by simp) (by simp)
   rw [List.take_add_one, hcc, hasL, List.any_append]
   rw [hasL] at hi2
   rw [hi2]
   simp [hq]
 ·have hil : i = l.length := by omega
  subst hil
  rw [List.take_length] at hi2
  simp
  refine fin [] (by decide) rfl rfl (by simp [objsOut, BPt, iC, show List.range 1 = [0] from rfl]) ⟨rfl, -1, rfl, ?_⟩
  simp [hi2]
theorem ConC_ok (tx : List UInt8) (n : Int) (l : List Coi) (h1 : tx.length = 32) (h2 : i64 n) (hl : ∀ c ∈ l, c.ok) (hn : l.length ≤ 100000) : ECalls Tryz.prog 121 [.v (.c (.fz (.sl 34 (coiv l)))), .v (.c (.clo 120 [(0, 0)]))] [BPt tx n] fun y H' => H' = [some (BPt tx n)] ∧ y = .lit (.bool (hasL tx n l)) := by
 refine ecalls k_ConC ?_
 simp [c_ConC, BPt, iC]
 refine callH [0] (IdxC_ok tx n l h1 h2 hl hn) (by simp) (by simp [BPt, iC]) (by simp) (by simp) (by simp) ?_
 rintro y H' ⟨rfl, i, rfl, hi⟩
 refine ⟨.inl (by simp [I]), by simp, ?_⟩
 have e : decide (0 ≤ i) = hasL tx n l := by
  cases hh : hasL tx n l
  ·rw [decide_eq_false_iff_not, hi, hh]; simp
  ·rw [decide_eq_true_iff, hi, hh]
 simp [I, BPt, iC, e]
 exact fin [] (by decide) rfl rfl (by simp [objsOut, BPt, iC, show List.range 1 = [0] from rfl]) ⟨rfl, rfl⟩
def ylm8 : UL | _ => [xP 18 25 19 24, xM 19 4 25]
def ylm9 : UL | _ => xM 12 19 18 :: yF 13 20 19 false 43 2 :: xG 14 21 19 false (.iad 2 1 (.t 20) (xK 1)) :: yL 15 22 19 false 21 :: yM 16 23 19 false 5 :: ⟨17, (some 24), (some (19, false)), (.call 121 [.t 22, .t 23]), []⟩ :: hid ylm8
def ylma : UL | _ => yF 6 13 12 false 43 2 :: xG 7 14 12 false (.iad 2 1 (.t 13) (xK 0)) :: yL 8 15 12 false 14 :: yM 9 16 12 false 5 :: ⟨10, (some 17), (some (12, false)), (.call 121 [.t 15, .t 16]), []⟩ :: xP 11 18 12 17 :: hid ylm9
def ylmb : UL | _ => xF 0 7 0 2 :: xF 1 8 0 7 :: xD 2 9 33 8 :: xD 3 10 33 3 :: xQ 4 11 (.eqw false [(32, .u8), (1, .i64)] (.t 9) (.t 10)) :: xM 5 12 11 :: hid ylma
def ybmc : UB | _ => .seq (reg0 [xW 0 2 49 0, xW 1 3 36 1, xQ 2 4 (.mov (.k (.bool false)))] 3) (.seq (reg0 [xQ 0 6 (.mkf 120 [.t 3]), xM 1 5 6] 2) (.seq (reg0 (hid ylmb) 20) .ret))
attribute [simp] ylm8 ylm9 ylma ylmb ybmc
def c_SHas : EB × List QOp × Nat := ((hid ybmc), [(.mov (.t 4))], 26)
theorem k_SHas : cfun Tryz.prog 69 = some c_SHas := by kernel_rfl
def ylmd : UL | _ => [xW 0 2 38 0, xW 1 3 42 1, xQ 2 4 (.alloc 49 (zU8 ++ [xZ, xZ, xZ, xZ, xZ, xZ, xZ, xZ, xZ, xS, xS, xS, xS, xS, xS, (.bool false), (.bool false)])), xQ 3 5 (.mov (.k .nilIface))]
def ylme : UL | _ => [xD 0 7 38 2, xD 1 8 5 3, xO 2 9 (.call 22 [.t 7, .t 8]), xM 3 6 9]
def ylmg : UL | _ => [xQ 0 12 (.build (zU8 ++ [xZ, xZ, xZ, xZ, xZ, xZ, xZ, xZ, xZ, xS, xS, xS, xS, xS, xS, (.bool false), (.bool false)]) []), xM 1 13 6, xN 2 (.fz (.sto 49 (.t 4) (.t 12))), xM 3 5 13]
def ylmi : UL | _ => [xD 0 14 38 2, xD 1 15 5 3, xQ 2 16 (.build (zU8 ++ [xZ, xZ, xZ, xZ, xZ, xZ, xZ, xZ, xZ, xS, xS, xS, xS, xS, xS, (.bool false), (.bool false)]) [(0, 38, .t 14), (38, 5, .t 15)]), xO 3 17 (.call 34 [.t 16]), xN 4 (.fz (.sto 49 (.t 4) (.t 17))), xQ 5 5 (.mov (.k .nilIface))]
def ybmk : UB | _ => .seq (reg0 (hid ylmd) 4) (.seq (.seq (reg0 (hid ylme) 4) (.seq (reg0 [xM 0 10 6, xQ 1 11 (.eqi true (.t 10))] 2) (.cond (.t 11) (.seq (reg0 (hid ylmg) 4) .ret) .skip))) (.seq (reg0 (hid ylmi) 6) .ret))
attribute [simp] ylmd ylme ylmg ylmi ybmk
def c_SNew : EB × List QOp × Nat := ((hid ybmk), [(.lda 49 (.t 4)), (.mov (.t 5))], 18)
theorem k_SNew : cfun Tryz.prog 8 = some c_SNew := by kernel_rfl
def NlR : List EC → List EC → Prop
 | [], [] => True
 | a :: r, b :: s => (a = b ∨ (a = .fz (.lit (.slice none 0 0)) ∧ ∃ e, b = .fz (.sl e []))) ∧ NlR r s
 | _, _ => False
theorem NlR.refl : ∀ L : List EC, NlR L L
 | [] => trivial
 | _ :: r => ⟨.inl rfl, NlR.refl r⟩
theorem NlR.app : ∀ (L : List EC) {a b : List EC}, NlR a b → NlR (L ++ a) (L ++ b)
 | [], _, _, h => h
 | _ :: r, _, _, h => ⟨.inl rfl, NlR.app r h⟩
theorem NlR.all2 {X : Cx} : ∀ {cs' cs : List EC} {vs : List Value}, NlR cs' cs → All2 (VR X) cs' vs → All2 (VR X) cs vs
 | [], [], _, _, h => h
 | [], _ :: _, _, h, _ => h.elim
 | _ :: _, [], _, h, _ => h.elim
 | a :: r, b :: s, vs, hn, h => by
  obtain ⟨u, us, rfl, h1, h2⟩ := h.cons_left
  refine All2.cons ?_ (NlR.all2 hn.2 h2)
  rcases hn.1 with rfl | ⟨rfl, e, rfl⟩
  ·exact h1
  ·exact nl_vr h1
theorem ecalls_nlR {P : Program} {f : FuncId} {cs cs' : List EC} {rest : List EV} {H : List EO} {post : EV → List (Option EO) → Prop} (hn : NlR cs' cs) (h : ECalls P f (.v (.agg cs) :: rest) H post) :
  ECalls P f (.v (.agg cs') :: rest) H post := by
 intro ρ Φ w vals r' ha
 refine h ρ Φ w vals r' ?_
 obtain ⟨u, us, rfl, h1, h2⟩ := ha.cons_left
 refine All2.cons ?_ h2
 obtain ⟨vs, rfl, hv⟩ := h1
 exact ⟨vs, rfl, hn.all2 hv⟩
theorem p33 {p : Prm} (h : p.tx.length = 32) (r : List EC) : List.take 33 (prmC p ++ r) = hc p.tx ++ [iC p.n] := by
 rw [List.take_append_of_le_length (by rw [prmC_len h]; omega), pm_33 h]
theorem p38 {p : Prm} (h : p.tx.length = 32) (r : List EC) : List.take 38 (prmC p ++ r) = prmC p := by
 rw [← prmC_len h, List.take_left]
theorem SHas_ok (d : Dea) (c : Coi) (hd : d.ok) (h1 : c.tx.length = 32) (h2 : i64 c.n) : ECalls Tryz.prog 69 [DV d, .v (.agg (hc c.tx ++ [iC c.n]))] [] fun y H' => H' = [] ∧ y = .lit (.bool (spH d c)) := by
 obtain ⟨hp, hs, hi0, hi1, ho0, ho1, n0, n1, m0, m1, k0, k1⟩ := id hd
 have lp := prmC_len hp.1
 have pT := pmT lp
 have pD := pmD lp
 have pG := pmG lp
 have q33 := p33 hp.1
 have kk1 := litK_ptL hp.1 hp.2.1
 have kk2 := litK_ptL h1 h2
 have e : (hc c.tx ++ [iC c.n]).take 33 = hc c.tx ++ [iC c.n] := List.tkL (by simp [h1])
 obtain ⟨f1, f2, f3, f4, f5, f6⟩ := (fzL_prm d.p).all
 refine ecalls k_SHas ?_
 simp only [DV, deaC, deaT, staC, bC, spH]
 generalize prmC d.p = L at lp pT pD pG q33 f1 f2 f3 f4 f5 f6 ⊢
 by_cases c0 : ptL d.p.tx d.p.n = ptL c.tx c.n
 ·simp [c_SHas, lp, pT, pD, pG, q33, kk1, kk2, e, c0, h1]
  exact fin0
 simp [c_SHas, lp, pT, pD, pG, q33, kk1, kk2, e, c0, h1]
 refine callH [16] (ConC_ok c.tx c.n d.i0 h1 h2 hi0 (by omega)) (by simp) (by simp [BPt, iC]) (by simp) (by simp) (by simp) ?_
 rintro y H' ⟨rfl, rfl⟩
 refine ⟨.inl (by simp), by simp, ?_⟩
 simp [BPt, iC, lp, pT, pD, pG]
 cases hA : hasL c.tx c.n d.i0
 rotate_left
 ·simp [lp, pT, pD, pG]
  exact fin0
 simp [lp, pT, pD, pG]
 refine callH [16] (ConC_ok c.tx c.n d.i1 h1 h2 hi1 (by omega)) (by simp) (by simp [BPt, iC]) (by simp) (by simp) (by simp) ?_
 rintro y H' ⟨rfl, rfl⟩
 refine ⟨.inl (by simp), by simp, ?_⟩
 simp [BPt, iC, lp, pT, pD, pG]
 exact fin0
def spN (p : Prm) (s : Sta) : Dea × Nat := if bldE p s ≠ 0 then (zDea, bldE p s) else (⟨p, s, [], [], [], [], false, false⟩, 0)
def DE (q : Dea × Nat) : EV := .tup [.agg (deaC q.1), .c (.fz (.lit (errV q.2)))]
def RDE (q : Dea × Nat) : EV := .tup [.agg (deaC q.1), .c (iC q.2)]
theorem z49 : List.drop 49 (hc hz ++ [.fz (.lit (.int .i64 0)), .fz (.lit (.int .i64 0)), .fz (.lit (.int .i64 0)), .fz (.lit (.int .i64 0)), .fz (.lit (.int .i64 0)), .fz (.lit (.int .i64 0)), .fz (.lit (.int .i64 0)), .fz (.lit (.int .i64 0)), .fz (.lit (.int .i64 0)), .fz (.lit (.slice none 0 0)), .fz (.lit (.slice none 0 0)), .fz (.lit (.slice none 0 0)), .fz (.lit (.slice none 0 0)), .fz (.lit (.slice none 0 0)), .fz (.lit (.slice none 0 0)), .fz (.lit (.bool false)), .fz (.lit (.bool false))]) = [] := rfl
theorem z38 : List.drop 38 (hc hz ++ [.fz (.lit (.int .i64 0)), .fz (.lit (.int .i64 0)), .fz (.lit (.int .i64 0)), .fz (.lit (.int .i64 0)), .fz (.lit (.int .i64 0)), .fz (.lit (.int .i64 0)), .fz (.lit (.int .i64 0)), .fz (.lit (.int .i64 0)), .fz (.lit (.int .i64 0)), .fz (.lit (.slice none 0 0)), .fz (.lit (.slice none 0 0)), .fz (.lit (.slice none 0 0)), .fz (.lit (.slice none 0 0)), .fz (.lit (.slice none 0 0)), .fz (.lit (.slice none 0 0)), .fz (.lit (.bool false)), .fz (.lit (.bool false))]) = [.fz (.lit (.int .i64 0)), .fz (.lit (.int .i64 0)), .fz (.lit (.int .i64 0)), .fz (.lit (.slice none 0 0)), .fz (.lit (.slice none 0 0)), .fz (.lit (.slice none 0 0)), .fz (.lit (.slice none 0 0)), .fz (.lit (.slice none 0 0)), .fz (.lit (.slice none 0 0)), .fz (.lit (.bool false)), .fz (.lit (.bool false))] := rfl
set_option maxRecDepth 8000 in
theorem SNew_ok (p : Prm) (s : Sta) (hp : p.ok) (hs : s.ok) : ECalls Tryz.prog 8 [PVv p, SV s] [] fun y H' => H' = [] ∧ y = DE (spN p s) := by
 have lp := prmC_len hp.1
 have pT := pmT lp
 have pD := pmD lp
 have pG := pmG lp
 have q38 := p38 hp.1
 have q38' := pm_take hp.1
 refine ecalls k_SNew ?_
 simp [c_SNew, PVv, SV, staC, lp, pT, pD, pG, q38', -errV_0]
 refine call0 (BCheck_ok p s hp hs) (by simp [PVv, SV, staC]) ?_
 rintro y H' ⟨rfl, rfl⟩
 refine ⟨.inl (by simp), le_ok rfl, ?_⟩
 by_cases hb : bldE p s = 0
 rotate_left
 ·have e : spN p s = (zDea, bldE p s) := if_pos hb
  rw [e]
  simp [hb, z49, -errV_0]
  refine finW _ (weak_nlB (o := 32) (k := 41) 36 rfl rfl) ?_
  refine finW _ (weak_nlB (o := 32) (k := 42) 3 rfl rfl) ?_
  refine finW _ (weak_nlB (o := 32) (k := 43) 34 rfl rfl) ?_
  refine finW _ (weak_nlB (o := 32) (k := 44) 34 rfl rfl) ?_
  refine finW _ (weak_nlB (o := 32) (k := 45) 2 rfl rfl) ?_
  refine finW _ (weak_nlB (o := 32) (k := 46) 2 rfl rfl) ?_
  exact fin0
 have e : spN p s = (⟨p, s, [], [], [], [], false, false⟩, 0) := by unfold spN; rw [if_neg (by simpa using hb)]
 rw [e]
 simp [hb, lp, pT, pD, pG, q38', z38, z49, -errV_0]
 have hok : Dea.ok ⟨p, s, [], [], [], [], false, false⟩ := ⟨hp, hs, by simp, by simp, by simp, by simp, by simp, by simp, by simp, by simp, by simp, by simp⟩
 have hO := ecalls_nlR (cs := deaC ⟨p, s, [], [], [], [], false, false⟩) (cs' := prmC p ++ (staC s ++ [.fz (.lit (.slice none 0 0)), .fz (.lit (.slice none 0 0)), .fz (.lit (.slice none 0 0)), .fz (.lit (.slice none 0 0)), bC false, bC false]))
  (NlR.app _ (NlR.app _ ⟨.inr ⟨rfl, _, rfl⟩, .inr ⟨rfl, _, rfl⟩, .inr ⟨rfl, _, rfl⟩, .inr ⟨rfl, _, rfl⟩, .inl rfl, .inl rfl, trivial⟩)) (SOwn_ok _ hok)
 refine call0 hO (by simp [staC, bC]) ?_
 rintro y H' ⟨rfl, rfl⟩
 refine ⟨.inl (by simp), le_ok rfl, ?_⟩
 simp [lp, pT, pD, pG, z38, z49, staC, bC, -errV_0]
 refine finW _ (weak_frz (o := 208) (ty := 102) (es := 34) (xs := coiv []) rfl) ?_
 refine finW _ (weak_frz (o := 209) (ty := 102) (es := 34) (xs := coiv []) rfl) ?_
 refine finW _ (weak_frz (o := 210) (ty := 100) (es := 2) (xs := outv []) rfl) ?_
 refine finW _ (weak_frz (o := 211) (ty := 100) (es := 2) (xs := outv []) rfl) ?_
 refine fin [] (v := DE (⟨p, s, [], [], [], [], false, false⟩, 0)) (y := DE (⟨p, s, [], [], [], [], false, false⟩, 0)) (by decide) ?_ ?_ rfl ⟨rfl, rfl⟩
 ·simp [resV, resT, evT, DE, deaC, staC, deaT, bC, lp, pT, pD, pG, (fzL_prm p).all.fz, asT, coiv, outv, -errV_0]
  rfl
 ·simp [conR, conT, conTs, DE, -errV_0]
def ylml : UL | _ => [xW 0 3 49 0, xW 1 5 102 2, xQ 2 6 (.alloc 49 (zU8 ++ [xZ, xZ, xZ, xZ, xZ, xZ, xZ, xZ, xZ, xS, xS, xS, xS, xS, xS, (.bool false), (.bool false)])), xQ 3 7 (.mov (.k .nilIface))]
def ylmm : UL | _ => [xD 0 9 49 3, xM 1 10 1, xO 2 11 (.call 68 [.t 9, .t 10]), xM 3 8 11]
def ylmo : UL | _ => [xQ 0 14 (.build (zU8 ++ [xZ, xZ, xZ, xZ, xZ, xZ, xZ, xZ, xZ, xS, xS, xS, xS, xS, xS, (.bool false), (.bool false)]) []), xM 1 15 8, xN 2 (.fz (.sto 49 (.t 6) (.t 14))), xM 3 7 15]
def ylmq : UL | _ => [xM 6 16 22]
def ylmr : UL | _ => xM 0 17 1 :: xF 1 18 43 3 :: xQ 2 19 (.iad 2 1 (.t 18) (.t 17)) :: xL 3 20 19 :: xE 4 21 20 :: xc 5 22 .geq 21 30 :: hid ylmq
def ylms : UL | _ => [xQ 0 23 (.build (zU8 ++ [xZ, xZ, xZ, xZ, xZ, xZ, xZ, xZ, xZ, xS, xS, xS, xS, xS, xS, (.bool false), (.bool false)]) []), xQ 1 24 (.mki 121 (xK 30)), xN 2 (.fz (.sto 49 (.t 6) (.t 23))), xM 3 7 24]
def ylmt : UL | _ => [xD 0 26 49 3, xF 1 27 0 5, xD 2 28 33 27, xO 3 29 (.call 69 [.t 26, .t 28]), xM 4 25 29]
def ylmu : UL | _ => [xQ 0 30 (.build (zU8 ++ [xZ, xZ, xZ, xZ, xZ, xZ, xZ, xZ, xZ, xS, xS, xS, xS, xS, xS, (.bool false), (.bool false)]) []), xQ 1 31 (.mki 121 (xK 9)), xN 2 (.fz (.sto 49 (.t 6) (.t 30))), xM 3 7 31]
def ylmw : UL | _ => [xQ 0 36 (.build (zU8 ++ [xZ, xZ, xZ, xZ, xZ, xZ, xZ, xZ, xZ, xS, xS, xS, xS, xS, xS, (.bool false), (.bool false)]) []), xQ 1 37 (.mki 121 (xK 27)), xN 2 (.fz (.sto 49 (.t 6) (.t 36))), xM 3 7 37]
def ylmx : UL | _ => [xF 0 39 33 5, xL 1 40 39, xc 2 41 .gtr 40 1125899906842624, xM 3 38 41]
def ylmy : UL | _ => [xQ 0 42 (.build (zU8 ++ [xZ, xZ, xZ, xZ, xZ, xZ, xZ, xZ, xZ, xS, xS, xS, xS, xS, xS, (.bool false), (.bool false)]) []), xQ 1 43 (.mki 121 (xK 5)), xN 2 (.fz (.sto 49 (.t 6) (.t 42))), xM 3 7 43]
def ybn1 : UB | _ => .seq (reg0 (hid ylmt) 5) (.cond (.t 25) (.seq (reg0 (hid ylmu) 4) .ret) (.seq (reg0 [xF 0 33 33 5, xL 1 34 33, xc 2 35 .lss 34 10, xM 3 32 35] 4) (.cond (.t 32) (.seq (reg0 (hid ylmw) 4) .ret) (.seq (reg0 (hid ylmx) 4) (.cond (.t 38) (.seq (reg0 (hid ylmy) 4) .ret) .skip)))))
def yln3 : UL | _ => [xD 0 44 49 3, xO 1 45 (.call 34 [.t 44]), xN 2 (.fz (.sto 49 (.t 3) (.t 45)))]
def yln4 : UL | _ => [xQ 6 52 (.bsl 34 (zU8 ++ [xZ, xZ]) 1 [(0, .t 51)]), xF 8 54 43 3, ⟨7, (some 53), none, (.app 102 34 48 (.t 50) (.t 52)), [0, 8]⟩, xQ 9 55 (.iad 2 1 (.t 54) (.t 46)), xN 10 (.fz (.sto 1 (.t 55) (.t 53)))]
def yln5 : UL | _ => xM 0 46 1 :: xM 1 47 1 :: xF 2 48 43 3 :: xQ 3 49 (.iad 2 1 (.t 48) (.t 47)) :: xL 4 50 49 :: xD 5 51 34 5 :: hid yln4
def yln6 : UL | _ => [xD 0 56 49 3, xN 1 (.fz (.sto 49 (.t 6) (.t 56))), xQ 2 7 (.mov (.k .nilIface))]
def ybn8 : UB | _ => .seq (.block 0 (.seq (reg0 (hid ylmr) 7) (.cond (.t 16) (.seq (reg0 (hid ylms) 4) .ret) (hid ybn1)))) (.seq (reg0 (hid yln3) 3) (.seq (reg1 (hid yln5) 11) (.seq (reg0 (hid yln6) 3) .ret)))
def ybn9 : UB | _ => .seq (.seq (reg0 (hid ylmm) 4) (.seq (reg0 [xM 0 12 8, xQ 1 13 (.eqi true (.t 12))] 2) (.cond (.t 13) (.seq (reg0 (hid ylmo) 4) .ret) .skip))) (hid ybn8)
def ybna : UB | _ => .seq (reg0 (hid ylml) 4) (hid ybn9)
attribute [simp] ylml ylmm ylmo ylmq ylmr ylms ylmt ylmu ylmw ylmx ylmy ybn1 yln3 yln4 yln5 yln6 ybn8 ybn9 ybna
def c_SBring : EB × List QOp × Nat := ((hid ybna), [(.lda 49 (.t 6)), (.mov (.t 7))], 57)
theorem k_SBring : cfun Tryz.prog 32 = some c_SBring := by kernel_rfl
def bE (d : Dea) (c : Coi) (n : Nat) : Nat := if 30 ≤ n then 30 else if spH d c = true then 9 else if c.am < 10 then 27 else if 1125899906842624 < c.am then 5 else 0
def spB (d : Dea) (side : Int) (c : Coi) : Dea × Nat :=
 if spO d side ≠ 0 then (zDea, spO d side)
 else if side = 0 then (if bE d c d.i0.length ≠ 0 then (zDea, bE d c d.i0.length) else (⟨d.p, d.s, d.i0 ++ [c], d.i1, d.o0, d.o1, d.r0, d.r1⟩, 0))
 else (if bE d c d.i1.length ≠ 0 then (zDea, bE d c d.i1.length) else (⟨d.p, d.s, d.i0, d.i1 ++ [c], d.o0, d.o1, d.r0, d.r1⟩, 0))
theorem spO_side {d : Dea} {side : Int} (h : spO d side = 0) : (side = 0 ∧ d.r0 = false) ∨ (side = 1 ∧ d.r1 = false) := by
 unfold spO at h
 by_cases c0 : side = 0
 ·rw [if_pos c0] at h
  cases hr : d.r0
  ·exact .inl ⟨c0, rfl⟩
  ·simp [hr] at h
 ·rw [if_neg c0] at h
  by_cases c1 : side = 1
  ·rw [if_pos c1] at h
   cases hr : d.r1
   ·exact .inr ⟨c1, rfl⟩
   ·simp [hr] at h
  ·rw [if_neg c1] at h; simp at h
@[simp] theorem errV_9w : Value.iface 121 (.int .i64 9) = errV 9 := rfl
set_option maxRecDepth 8000 in
theorem SBring_ok (d : Dea) (side : Int) (c : Coi) (hd : d.ok) (hs : i64 side) (hc' : c.ok) : ECalls Tryz.prog 32 [DV d, I .i64 side, .v (.agg (coiC c))] [] fun y H' => H' = [] ∧ y = DE (spB d side c) := by
 obtain ⟨hp, hst, hi0, hi1, ho0, ho1, n0, n1, m0, m1, k0, k1⟩ := id hd
 have lp := prmC_len hp.1
 have pT := pmT lp
 have pD := pmD lp
 have pG := pmG lp
 have ld := deaC_len hp.1
 have td : List.take 49 (deaC d) = deaC d := List.tkL (by omega)
 have td49 : List.drop 49 (deaC d) = [] := List.drop_of_length_le (by omega)
 have lc := coiC_len hc'.1
 have lf := coiF_len hc'.1
 have c33 := coi_33 hc'.1
 have cam := idx_of (coi_am hc'.1) (by omega)
 have ctk := coi_take hc'.1
 have f2 := (fzL_prm d.p).all.fz
 refine ecalls k_SBring ?_
 simp [c_SBring, DV, I, ld, td, -errV_0]
 refine call0 (SOpen_ok d side hd hs) (by simp [DV, I]) ?_
 rintro y H' ⟨rfl, rfl⟩
 refine ⟨.inl (by simp), le_ok rfl, ?_⟩
 by_cases hO : spO d side = 0
 rotate_left
 ·have e : spB d side c = (zDea, spO d side) := if_pos hO
  rw [e]
  simp [hO, z49, -errV_0]
  refine finW _ (weak_nlB (o := 32) (k := 41) 36 rfl rfl) ?_
  refine finW _ (weak_nlB (o := 32) (k := 42) 3 rfl rfl) ?_
  refine finW _ (weak_nlB (o := 32) (k := 43) 34 rfl rfl) ?_
  refine finW _ (weak_nlB (o := 32) (k := 44) 34 rfl rfl) ?_
  refine finW _ (weak_nlB (o := 32) (k := 45) 2 rfl rfl) ?_
  refine finW _ (weak_nlB (o := 32) (k := 46) 2 rfl rfl) ?_
  exact fin0
 rw [hO]
 have g43 : (deaC d)[43]? = some (.fz (.sl 34 (coiv d.i0))) := pG _ 5
 have g44 : (deaC d)[44]? = some (.fz (.sl 34 (coiv d.i1))) := pG _ 6
 have e43 := idx_of g43 (by omega)
 have e44 := idx_of g44 (by omega)
 simp [ld, -errV_0]
 rcases spO_side hO with ⟨rfl, hr⟩ | ⟨rfl, hr⟩
 ·have e : spB d 0 c = (if bE d c d.i0.length ≠ 0 then (zDea, bE d c d.i0.length) else (⟨d.p, d.s, d.i0 ++ [c], d.i1, d.o0, d.o1, d.r0, d.r1⟩, 0)) := by unfold spB; rw [if_neg (by simp [hO])]; rw [if_pos rfl]
  simp [ld, e43, e44, -errV_0]
  refine alt (fun hl => ?_) (fun hl => ?_)
  ·have eb : bE d c d.i0.length = 30 := if_pos (by omega)
   rw [e, eb]
   simp [z49, -errV_0]
   refine finW _ (weak_nlB (o := 32) (k := 41) 36 rfl rfl) ?_
   refine finW _ (weak_nlB (o := 32) (k := 42) 3 rfl rfl) ?_
   refine finW _ (weak_nlB (o := 32) (k := 43) 34 rfl rfl) ?_
   refine finW _ (weak_nlB (o := 32) (k := 44) 34 rfl rfl) ?_
   refine finW _ (weak_nlB (o := 32) (k := 45) 2 rfl rfl) ?_
   refine finW _ (weak_nlB (o := 32) (k := 46) 2 rfl rfl) ?_
   exact fin0
  have hl' : ¬ (30 ≤ d.i0.length) := by omega
  simp [lc, c33, ld, td, -errV_0]
  refine call0 (SHas_ok d c hd hc'.1 hc'.2.1) (by simp [DV, iC]) ?_
  rintro y H' ⟨rfl, rfl⟩
  refine ⟨.inl (by simp [iC]), le_ok rfl, ?_⟩
  cases hh : spH d c
  rotate_left
  ·have eb : bE d c d.i0.length = 9 := by unfold bE; rw [if_neg hl', if_pos hh]
   rw [e, eb]
   simp [z49, -errV_0]
   refine finW _ (weak_nlB (o := 32) (k := 41) 36 rfl rfl) ?_
   refine finW _ (weak_nlB (o := 32) (k := 42) 3 rfl rfl) ?_
   refine finW _ (weak_nlB (o := 32) (k := 43) 34 rfl rfl) ?_
   refine finW _ (weak_nlB (o := 32) (k := 44) 34 rfl rfl) ?_
   refine finW _ (weak_nlB (o := 32) (k := 45) 2 rfl rfl) ?_
   refine finW _ (weak_nlB (o := 32) (k := 46) 2 rfl rfl) ?_
   exact fin0
  simp [lc, cam, iC, -errV_0]
  refine alt (fun ha => ?_) (fun ha => ?_)
  ·have eb : bE d c d.i0.length = 27 := by unfold bE; rw [if_neg hl', if_neg (by simp [hh]), if_pos ha]
   rw [e, eb]
   simp [z49, -errV_0]
   refine finW _ (weak_nlB (o := 32) (k := 41) 36 rfl rfl) ?_
   refine finW _ (weak_nlB (o := 32) (k := 42) 3 rfl rfl) ?_
   refine finW _ (weak_nlB (o := 32) (k := 43) 34 rfl rfl) ?_
   refine finW _ (weak_nlB (o := 32) (k := 44) 34 rfl rfl) ?_
   refine finW _ (weak_nlB (o := 32) (k := 45) 2 rfl rfl) ?_
   refine finW _ (weak_nlB (o := 32) (k := 46) 2 rfl rfl) ?_
   exact fin0
  simp [lc, cam, iC, -errV_0]
  refine alt (fun hm => ?_) (fun hm => ?_)
  ·have eb : bE d c d.i0.length = 5 := by unfold bE; rw [if_neg hl', if_neg (by simp [hh]), if_neg ha, if_pos hm]
   rw [e, eb]
   simp [z49, -errV_0]
   refine finW _ (weak_nlB (o := 32) (k := 41) 36 rfl rfl) ?_
   refine finW _ (weak_nlB (o := 32) (k := 42) 3 rfl rfl) ?_
   refine finW _ (weak_nlB (o := 32) (k := 43) 34 rfl rfl) ?_
   refine finW _ (weak_nlB (o := 32) (k := 44) 34 rfl rfl) ?_
   refine finW _ (weak_nlB (o := 32) (k := 45) 2 rfl rfl) ?_
   refine finW _ (weak_nlB (o := 32) (k := 46) 2 rfl rfl) ?_
   exact fin0
  have eb : bE d c d.i0.length = 0 := by unfold bE; rw [if_neg hl', if_neg (by simp [hh]), if_neg ha, if_neg hm]
  rw [e, eb, if_neg (by simp)]
  simp [ld, td, -errV_0]
  refine call0 (SOwn_ok d hd) (by simp [DV]) ?_
  rintro y H' ⟨rfl, rfl⟩
  refine ⟨.inl (by simp), le_ok rfl, ?_⟩
  simp [lc, lf, ld, ctk, lp, pT, pD, pG, staC, bC, td49, z49, -errV_0]
  refine ⟨⟨by omega, by omega⟩, ?_⟩
  refine finW _ (weak_frz (o := 497) (ty := 102) (es := 34) (xs := coiv d.i1) rfl) ?_
  refine finW _ (weak_frz (o := 498) (ty := 100) (es := 2) (xs := outv d.o0) rfl) ?_
  refine finW _ (weak_frz (o := 499) (ty := 100) (es := 2) (xs := outv d.o1) rfl) ?_
  refine finW _ (weak_frz (o := 640) (ty := 102) (es := 34) (xs := coiv d.i0 ++ [coiF c]) rfl) ?_
  generalize hq : (Dea.mk d.p d.s (d.i0 ++ [c]) d.i1 d.o0 d.o1 d.r0 d.r1) = d'
  refine fin [] (v := DE (d', 0)) (y := DE (d', 0)) (by decide) ?_ ?_ rfl ⟨rfl, rfl⟩
  ·subst hq
   simp [resV, resT, evT, DE, deaC, staC, deaT, bC, lp, pT, pD, pG, f2, asT, coiv, outv, List.tkL, -errV_0]
   rfl
  ·simp [conR, conT, conTs, DE, -errV_0]
 ·have e : spB d 1 c = (if bE d c d.i1.length ≠ 0 then (zDea, bE d c d.i1.length) else (⟨d.p, d.s, d.i0, d.i1 ++ [c], d.o0, d.o1, d.r0, d.r1⟩, 0)) := by unfold spB; rw [if_neg (by simp [hO])]; rw [if_neg (by decide)]
  simp [ld, e43, e44, -errV_0]
  refine alt (fun hl => ?_) (fun hl => ?_)
  ·have eb : bE d c d.i1.length = 30 := if_pos (by omega)
   rw [e, eb]
   simp [z49, -errV_0]
   refine finW _ (weak_nlB (o := 32) (k := 41) 36 rfl rfl) ?_
   refine finW _ (weak_nlB (o := 32) (k := 42) 3 rfl rfl) ?_
   refine finW _ (weak_nlB (o := 32) (k := 43) 34 rfl rfl) ?_
   refine finW _ (weak_nlB (o := 32) (k := 44) 34 rfl rfl) ?_
   refine finW _ (weak_nlB (o := 32) (k := 45) 2 rfl rfl) ?_
   refine finW _ (weak_nlB (o := 32) (k := 46) 2 rfl rfl) ?_
   exact fin0
  have hl' : ¬ (30 ≤ d.i1.length) := by omega
  simp [lc, c33, ld, td, -errV_0]
  refine call0 (SHas_ok d c hd hc'.1 hc'.2.1) (by simp [DV, iC]) ?_
  rintro y H' ⟨rfl, rfl⟩
  refine ⟨.inl (by simp [iC]), le_ok rfl, ?_⟩
  cases hh : spH d c
  rotate_left
  ·have eb : bE d c d.i1.length = 9 := by unfold bE; rw [if_neg hl', if_pos hh]
   rw [e, eb]
   simp [z49, -errV_0]
   refine finW _ (weak_nlB (o := 32) (k := 41) 36 rfl rfl) ?_
   refine finW _ (weak_nlB (o := 32) (k := 42) 3 rfl rfl) ?_
   refine finW _ (weak_nlB (o := 32) (k := 43) 34 rfl rfl) ?_
   refine finW _ (weak_nlB (o := 32) (k := 44) 34 rfl rfl) ?_
   refine finW _ (weak_nlB (o := 32) (k := 45) 2 rfl rfl) ?_
   refine finW _ (weak_nlB (o := 32) (k := 46) 2 rfl rfl) ?_
   exact fin0
  simp [lc, cam, iC, -errV_0]
  refine alt (fun ha => ?_) (fun ha => ?_)
  ·have eb : bE d c d.i1.length = 27 := by unfold bE; rw [if_neg hl', if_neg (by simp [hh]), if_pos ha]
   rw [e, eb]
   simp [z49, -errV_0]
   refine finW _ (weak_nlB (o := 32) (k := 41) 36 rfl rfl) ?_
   refine finW _ (weak_nlB (o := 32) (k := 42) 3 rfl rfl) ?_
   refine finW _ (weak_nlB (o := 32) (k := 43) 34 rfl rfl) ?_
   refine finW _ (weak_nlB (o := 32) (k := 44) 34 rfl rfl) ?_
   refine finW _ (weak_nlB (o := 32) (k := 45) 2 rfl rfl) ?_
   refine finW _ (weak_nlB (o := 32) (k := 46) 2 rfl rfl) ?_
   exact fin0
  simp [lc, cam, iC, -errV_0]
  refine alt (fun hm => ?_) (fun hm => ?_)
  ·have eb : bE d c d.i1.length = 5 := by unfold bE; rw [if_neg hl', if_neg (by simp [hh]), if_neg ha, if_pos hm]
   rw [e, eb]
   simp [z49, -errV_0]
   refine finW _ (weak_nlB (o := 32) (k := 41) 36 rfl rfl) ?_
   refine finW _ (weak_nlB (o := 32) (k := 42) 3 rfl rfl) ?_
   refine finW _ (weak_nlB (o := 32) (k := 43) 34 rfl rfl) ?_
   refine finW _ (weak_nlB (o := 32) (k := 44) 34 rfl rfl) ?_
   refine finW _ (weak_nlB (o := 32) (k := 45) 2 rfl rfl) ?_
   refine finW _ (weak_nlB (o := 32) (k := 46) 2 rfl rfl) ?_
   exact fin0
  have eb : bE d c d.i1.length = 0 := by unfold bE; rw [if_neg hl', if_neg (by simp [hh]), if_neg ha, if_neg hm]
  rw [e, eb, if_neg (by simp)]
  simp [ld, td, -errV_0]
  refine call0 (SOwn_ok d hd) (by simp [DV]) ?_
  rintro y H' ⟨rfl, rfl⟩
  refine ⟨.inl (by simp), le_ok rfl, ?_⟩
  simp [lc, lf, ld, ctk, lp, pT, pD, pG, staC, bC, td49, z49, -errV_0]
  refine ⟨⟨by omega, by omega⟩, ?_⟩
  refine finW _ (weak_frz (o := 496) (ty := 102) (es := 34) (xs := coiv d.i0) rfl) ?_
  refine finW _ (weak_frz (o := 498) (ty := 100) (es := 2) (xs := outv d.o0) rfl) ?_
  refine finW _ (weak_frz (o := 499) (ty := 100) (es := 2) (xs := outv d.o1) rfl) ?_
  refine finW _ (weak_frz (o := 640) (ty := 102) (es := 34) (xs := coiv d.i1 ++ [coiF c]) rfl) ?_
  generalize hq : (Dea.mk d.p d.s d.i0 (d.i1 ++ [c]) d.o0 d.o1 d.r0 d.r1) = d'
  refine fin [] (v := DE (d', 0)) (y := DE (d', 0)) (by decide) ?_ ?_ rfl ⟨rfl, rfl⟩
  ·subst hq
   simp [resV, resT, evT, DE, deaC, staC, deaT, bC, lp, pT, pD, pG, f2, asT, coiv, outv, List.tkL, -errV_0]
   rfl
  ·simp [conR, conT, conTs, DE, -errV_0]
def ylnb : UL | _ => [xW 0 2 49 0, xQ 1 4 (.alloc 49 (zU8 ++ [xZ, xZ, xZ, xZ, xZ, xZ, xZ, xZ, xZ, xS, xS, xS, xS, xS, xS, (.bool false), (.bool false)])), xQ 2 5 (.mov (.k .nilIface))]
def ylnc : UL | _ => [xD 0 7 49 2, xM 1 8 1, xO 2 9 (.call 68 [.t 7, .t 8]), xM 3 6 9]
def ylne : UL | _ => [xQ 0 12 (.build (zU8 ++ [xZ, xZ, xZ, xZ, xZ, xZ, xZ, xZ, xZ, xS, xS, xS, xS, xS, xS, (.bool false), (.bool false)]) []), xM 1 13 6, xN 2 (.fz (.sto 49 (.t 4) (.t 12))), xM 3 5 13]
def ylng : UL | _ => [xD 0 14 49 2, xO 1 15 (.call 34 [.t 14]), xN 2 (.fz (.sto 49 (.t 2) (.t 15)))]
def ylnh : UL | _ => [xM 0 16 1, xF 1 17 47 2, xQ 2 18 (.iad 2 1 (.t 17) (.t 16)), xN 3 (.sto 1 (.t 18) (.k (.bool true)))]
def ylni : UL | _ => [xD 0 19 49 2, xN 1 (.fz (.sto 49 (.t 4) (.t 19))), xQ 2 5 (.mov (.k .nilIface))]
def ybnl : UB | _ => .seq (reg0 (hid ylnb) 3) (.seq (.seq (reg0 (hid ylnc) 4) (.seq (reg0 [xM 0 10 6, xQ 1 11 (.eqi true (.t 10))] 2) (.cond (.t 11) (.seq (reg0 (hid ylne) 4) .ret) .skip))) (.seq (reg0 (hid ylng) 3) (.seq (reg0 (hid ylnh) 4) (.seq (reg0 (hid ylni) 3) .ret))))
attribute [simp] ylnb ylnc ylne ylng ylnh ylni ybnl
def c_SClose : EB × List QOp × Nat := ((hid ybnl), [(.lda 49 (.t 4)), (.mov (.t 5))], 20)
theorem k_SClose : cfun Tryz.prog 33 = some c_SClose := by kernel_rfl
def ylnm : UL | _ => [xW 0 3 49 0, xW 1 5 100 2, xQ 2 6 (.alloc 49 (zU8 ++ [xZ, xZ, xZ, xZ, xZ, xZ, xZ, xZ, xZ, xS, xS, xS, xS, xS, xS, (.bool false), (.bool false)])), xQ 3 7 (.mov (.k .nilIface))]
def ylnn : UL | _ => [xD 0 10 49 3, xM 1 11 1, xO 2 12 (.call 68 [.t 10, .t 11]), xM 3 8 12]
def ylnp : UL | _ => [xQ 0 15 (.build (zU8 ++ [xZ, xZ, xZ, xZ, xZ, xZ, xZ, xZ, xZ, xS, xS, xS, xS, xS, xS, (.bool false), (.bool false)]) []), xM 1 16 8, xN 2 (.fz (.sto 49 (.t 6) (.t 15))), xM 3 7 16]
def ylnr : UL | _ => [xM 0 17 1, xF 1 18 45 3, xQ 2 19 (.iad 2 1 (.t 18) (.t 17)), xL 3 20 19, xE 4 21 20, xc 5 22 .geq 21 30]
def ylns : UL | _ => [xQ 0 23 (.build (zU8 ++ [xZ, xZ, xZ, xZ, xZ, xZ, xZ, xZ, xZ, xS, xS, xS, xS, xS, xS, (.bool false), (.bool false)]) []), xQ 1 24 (.mki 121 (xK 30)), xN 2 (.fz (.sto 49 (.t 6) (.t 23))), xM 3 7 24]
def ylnu : UL | _ => [xM 6 9 30]
def ylnv : UL | _ => xQ 0 25 (.build (zU8 ++ [xZ, xZ, xS]) []) :: xO 1 26 (.fz (.q (.bsl 35 (zU8 ++ [xZ, xZ, xS]) 1 [(0, .t 25)]))) :: xD 2 27 2 5 :: xO 3 28 (.fz (.q (.bsl 2 [xZ, xS] 1 [(0, .t 27)]))) :: xQ 4 29 (.build [xZ, xS, xS] [(1, 1, .t 26), (2, 1, .t 28)]) :: xO 5 30 (.call 51 [.t 29]) :: hid ylnu
def ylnx : UL | _ => [xQ 0 33 (.build (zU8 ++ [xZ, xZ, xZ, xZ, xZ, xZ, xZ, xZ, xZ, xS, xS, xS, xS, xS, xS, (.bool false), (.bool false)]) []), xM 1 34 9, xN 2 (.fz (.sto 49 (.t 6) (.t 33))), xM 3 7 34]
def ylnz : UL | _ => [xD 0 35 49 3, xO 1 36 (.call 34 [.t 35]), xN 2 (.fz (.sto 49 (.t 3) (.t 36)))]
def ylo0 : UL | _ => [xF 9 46 45 3, ⟨6, (some 43), none, (.call 74 [.t 42]), [0, 1, 2, 3, 4, 9]⟩, ⟨7, (some 44), none, (.fz (.q (.bsl 2 [xZ, xS] 1 [(0, .t 43)]))), [0, 1, 2, 3, 4, 9]⟩, ⟨8, (some 45), none, (.app 100 2 32 (.t 41) (.t 44)), [0, 9]⟩, xQ 10 47 (.iad 2 1 (.t 46) (.t 37)), xN 11 (.fz (.sto 1 (.t 47) (.t 45)))]
def ylo1 : UL | _ => xM 0 37 1 :: xM 1 38 1 :: xF 2 39 45 3 :: xQ 3 40 (.iad 2 1 (.t 39) (.t 38)) :: xL 4 41 40 :: xD 5 42 2 5 :: hid ylo0
def ylo2 : UL | _ => [xD 0 48 49 3, xN 1 (.fz (.sto 49 (.t 6) (.t 48))), xQ 2 7 (.mov (.k .nilIface))]
def ybo4 : UB | _ => .seq (.seq (reg0 (hid ylnv) 7) (.seq (reg0 [xM 0 31 9, xQ 1 32 (.eqi true (.t 31))] 2) (.cond (.t 32) (.seq (reg0 (hid ylnx) 4) .ret) .skip))) (.seq (reg0 (hid ylnz) 3) (.seq (reg1 (hid ylo1) 12) (.seq (reg0 (hid ylo2) 3) .ret)))
def ybo5 : UB | _ => .seq (.seq (reg0 (hid ylnn) 4) (.seq (reg0 [xM 0 13 8, xQ 1 14 (.eqi true (.t 13))] 2) (.cond (.t 14) (.seq (reg0 (hid ylnp) 4) .ret) .skip))) (.seq (.seq (reg0 (hid ylnr) 6) (.cond (.t 22) (.seq (reg0 (hid ylns) 4) .ret) .skip)) (hid ybo4))
def ybo6 : UB | _ => .seq (reg0 (hid ylnm) 4) (hid ybo5)
attribute [simp] ylnm ylnn ylnp ylnr ylns ylnu ylnv ylnx ylnz ylo0 ylo1 ylo2 ybo4 ybo5 ybo6
def c_STake : EB × List QOp × Nat := ((hid ybo6), [(.lda 49 (.t 6)), (.mov (.t 7))], 49)
theorem k_STake : cfun Tryz.prog 42 = some c_STake := by kernel_rfl
def spC (d : Dea) (side : Int) : Dea × Nat :=
 if spO d side ≠ 0 then (zDea, spO d side)
 else if side = 0 then (⟨d.p, d.s, d.i0, d.i1, d.o0, d.o1, true, d.r1⟩, 0) else (⟨d.p, d.s, d.i0, d.i1, d.o0, d.o1, d.r0, true⟩, 0)
def tkT (o : Outp) : Txn := ⟨0, [⟨hz, 0, 0, []⟩], [o]⟩
def tE (o : Outp) (n : Nat) : Nat := if 30 ≤ n then 30 else chkT (tkT o)
def spT (d : Dea) (side : Int) (o : Outp) : Dea × Nat :=
 if spO d side ≠ 0 then (zDea, spO d side)
 else if side = 0 then (if tE o d.o0.length ≠ 0 then (zDea, tE o d.o0.length) else (⟨d.p, d.s, d.i0, d.i1, d.o0 ++ [o], d.o1, d.r0, d.r1⟩, 0))
 else (if tE o d.o1.length ≠ 0 then (zDea, tE o d.o1.length) else (⟨d.p, d.s, d.i0, d.i1, d.o0, d.o1 ++ [o], d.r0, d.r1⟩, 0))
theorem tk_ins (o : Outp) : (inpv (tkT o).ins).map (·.map gN) = [hf hz ++ [.lit (.int .i64 0), .lit (.int .i64 0), .lit (.slice none 0 0)]] := rfl
theorem zI : frzAll (hc hz ++ [.fz (.lit (.int .i64 0)), .fz (.lit (.int .i64 0)), .fz (.lit (.slice none 0 0))]) = some (hf hz ++ [.lit (.int .i64 0), .lit (.int .i64 0), .lit (.slice none 0 0)]) := rfl
theorem hzf_len : (hf hz).length = 32 := rfl
theorem tkT_ok {o : Outp} (h : o.ok) : (tkT o).ok := by
 refine ⟨by simp [tkT, i64], ?_, ?_, by simp [tkT], by simp [tkT]⟩
 ·intro x hx; simp [tkT] at hx; subst hx; exact ⟨rfl, by simp [i64], by simp [i64], by simp⟩
 ·intro x hx; simp [tkT] at hx; subst hx; exact h
set_option maxRecDepth 8000 in
theorem SClose_ok (d : Dea) (side : Int) (hd : d.ok) (hs : i64 side) : ECalls Tryz.prog 33 [DV d, I .i64 side] [] fun y H' => H' = [] ∧ y = DE (spC d side) := by
 obtain ⟨hp, hst, hi0, hi1, ho0, ho1, n0, n1, m0, m1, k0, k1⟩ := id hd
 have lp := prmC_len hp.1
 have pT := pmT lp
 have pD := pmD lp
 have pG := pmG lp
 have ld := deaC_len hp.1
 have td : List.take 49 (deaC d) = deaC d := List.tkL (by omega)
 have td49 : List.drop 49 (deaC d) = [] := List.drop_of_length_le (by omega)
 have f2 := (fzL_prm d.p).all.fz
 refine ecalls k_SClose ?_
 simp [c_SClose, DV, I, ld, td, -errV_0]
 refine call0 (SOpen_ok d side hd hs) (by simp [DV, I]) ?_
 rintro y H' ⟨rfl, rfl⟩
 refine ⟨.inl (by simp), le_ok rfl, ?_⟩
 by_cases hO : spO d side = 0
 rotate_left
 ·have e : spC d side = (zDea, spO d side) := if_pos hO
  rw [e]
  simp [hO, z49, -errV_0]
  refine finW _ (weak_nlB (o := 16) (k := 41) 36 rfl rfl) ?_
  refine finW _ (weak_nlB (o := 16) (k := 42) 3 rfl rfl) ?_
  refine finW _ (weak_nlB (o := 16) (k := 43) 34 rfl rfl) ?_
  refine finW _ (weak_nlB (o := 16) (k := 44) 34 rfl rfl) ?_
  refine finW _ (weak_nlB (o := 16) (k := 45) 2 rfl rfl) ?_
  refine finW _ (weak_nlB (o := 16) (k := 46) 2 rfl rfl) ?_
  exact fin0
 rw [hO]
 simp [ld, td, -errV_0]
 refine call0 (SOwn_ok d hd) (by simp [DV]) ?_
 rintro y H' ⟨rfl, rfl⟩
 refine ⟨.inl (by simp), le_ok rfl, ?_⟩
 rcases spO_side hO with ⟨rfl, hr⟩ | ⟨rfl, hr⟩
 ·have e : spC d 0 = (⟨d.p, d.s, d.i0, d.i1, d.o0, d.o1, true, d.r1⟩, 0) := by unfold spC; rw [if_neg (by simp [hO]), if_pos rfl]
  rw [e]
  simp [ld, td, lp, pT, pD, pG, staC, bC, td49, z49, -errV_0]
  refine finW _ (weak_frz (o := 160) (ty := 102) (es := 34) (xs := coiv d.i0) rfl) ?_
  refine finW _ (weak_frz (o := 161) (ty := 102) (es := 34) (xs := coiv d.i1) rfl) ?_
  refine finW _ (weak_frz (o := 162) (ty := 100) (es := 2) (xs := outv d.o0) rfl) ?_
  refine finW _ (weak_frz (o := 163) (ty := 100) (es := 2) (xs := outv d.o1) rfl) ?_
  generalize hq : (Dea.mk d.p d.s d.i0 d.i1 d.o0 d.o1 true d.r1) = d'
  refine fin [] (v := DE (d', 0)) (y := DE (d', 0)) (by decide) ?_ ?_ rfl ⟨rfl, rfl⟩
  ·subst hq
   simp [resV, resT, evT, DE, deaC, staC, deaT, bC, lp, pT, pD, pG, f2, asT, coiv, outv, List.tkL, -errV_0]
   rfl
  ·simp [conR, conT, conTs, DE, -errV_0]
 ·have e : spC d 1 = (⟨d.p, d.s, d.i0, d.i1, d.o0, d.o1, d.r0, true⟩, 0) := by unfold spC; rw [if_neg (by simp [hO]), if_neg (by decide)]
  rw [e]
  simp [ld, td, lp, pT, pD, pG, staC, bC, td49, z49, -errV_0]
  refine finW _ (weak_frz (o := 160) (ty := 102) (es := 34) (xs := coiv d.i0) rfl) ?_
  refine finW _ (weak_frz (o := 161) (ty := 102) (es := 34) (xs := coiv d.i1) rfl) ?_
  refine finW _ (weak_frz (o := 162) (ty := 100) (es := 2) (xs := outv d.o0) rfl) ?_
  refine finW _ (weak_frz (o := 163) (ty := 100) (es := 2) (xs := outv d.o1) rfl) ?_
  generalize hq : (Dea.mk d.p d.s d.i0 d.i1 d.o0 d.o1 d.r0 true) = d'
  refine fin [] (v := DE (d', 0)) (y := DE (d', 0)) (by decide) ?_ ?_ rfl ⟨rfl, rfl⟩
  ·subst hq
   simp [resV, resT, evT, DE, deaC, staC, deaT, bC, lp, pT, pD, pG, f2, asT, coiv, outv, List.tkL, -errV_0]
   rfl
  ·simp [conR, conT, conTs, DE, -errV_0]
set_option maxRecDepth 8000 in
theorem STake_ok (d : Dea) (side : Int) (o : Outp) (hd : d.ok) (hs : i64 side) (ho : o.ok) (hn : o.cs.length ≤ 2000000) : ECalls Tryz.prog 42 [DV d, I .i64 side, .v (.agg (outC o))] [] fun y H' => H' = [] ∧ y = DE (spT d side o) := by
 obtain ⟨hp, hst, hi0, hi1, ho0, ho1, n0, n1, m0, m1, k0, k1⟩ := id hd
 have lp := prmC_len hp.1
 have pT := pmT lp
 have pD := pmD lp
 have pG := pmG lp
 have ld := deaC_len hp.1
 have td : List.take 49 (deaC d) = deaC d := List.tkL (by omega)
 have td49 : List.drop 49 (deaC d) = [] := List.drop_of_length_le (by omega)
 have f2 := (fzL_prm d.p).all.fz
 have hC : ECalls Tryz.prog 51 [.v (.agg [iC 0, .fz (.sl 35 [hf hz ++ [.lit (.int .i64 0), .lit (.int .i64 0), .lit (.slice none 0 0)]]), .fz (.sl 2 [outF o])])] [] fun y H' => H' = [] ∧ y = .lit (errV (chkT (tkT o))) := by
  have := ecalls_nlG (TxCheck_ok (tkT o) (tkT_ok ho))
  rwa [tk_ins] at this
 refine ecalls k_STake ?_
 simp [c_STake, DV, I, ld, td, outC, iC, -errV_0]
 refine call0 (SOpen_ok d side hd hs) (by simp [DV, I]) ?_
 rintro y H' ⟨rfl, rfl⟩
 refine ⟨.inl (by simp), le_ok rfl, ?_⟩
 by_cases hO : spO d side = 0
 rotate_left
 ·have e : spT d side o = (zDea, spO d side) := if_pos hO
  rw [e]
  simp [hO, z49, -errV_0]
  refine finW _ (weak_nlB (o := 32) (k := 41) 36 rfl rfl) ?_
  refine finW _ (weak_nlB (o := 32) (k := 42) 3 rfl rfl) ?_
  refine finW _ (weak_nlB (o := 32) (k := 43) 34 rfl rfl) ?_
  refine finW _ (weak_nlB (o := 32) (k := 44) 34 rfl rfl) ?_
  refine finW _ (weak_nlB (o := 32) (k := 45) 2 rfl rfl) ?_
  refine finW _ (weak_nlB (o := 32) (k := 46) 2 rfl rfl) ?_
  exact fin0
 rw [hO]
 have g45 : (deaC d)[45]? = some (.fz (.sl 2 (outv d.o0))) := pG _ 7
 have g46 : (deaC d)[46]? = some (.fz (.sl 2 (outv d.o1))) := pG _ 8
 have e45 := idx_of g45 (by omega)
 have e46 := idx_of g46 (by omega)
 simp [ld, -errV_0]
 rcases spO_side hO with ⟨rfl, hr⟩ | ⟨rfl, hr⟩
 ·have e : spT d 0 o = (if tE o d.o0.length ≠ 0 then (zDea, tE o d.o0.length) else (⟨d.p, d.s, d.i0, d.i1, d.o0 ++ [o], d.o1, d.r0, d.r1⟩, 0)) := by unfold spT; rw [if_neg (by simp [hO])]; rw [if_pos rfl]
  simp [ld, e45, e46, -errV_0]
  refine alt (fun hl => ?_) (fun hl => ?_)
  ·have eb : tE o d.o0.length = 30 := if_pos (by omega)
   rw [e, eb]
   simp [z49, -errV_0]
   refine finW _ (weak_nlB (o := 32) (k := 41) 36 rfl rfl) ?_
   refine finW _ (weak_nlB (o := 32) (k := 42) 3 rfl rfl) ?_
   refine finW _ (weak_nlB (o := 32) (k := 43) 34 rfl rfl) ?_
   refine finW _ (weak_nlB (o := 32) (k := 44) 34 rfl rfl) ?_
   refine finW _ (weak_nlB (o := 32) (k := 45) 2 rfl rfl) ?_
   refine finW _ (weak_nlB (o := 32) (k := 46) 2 rfl rfl) ?_
   exact fin0
  have hl' : ¬ (30 ≤ d.o0.length) := by omega
  have eb : tE o d.o0.length = chkT (tkT o) := if_neg hl'
  simp [ld, td, zI, hzf_len, -errV_0]
  refine call0 hC (by simp [outF, iF, iC]) ?_
  rintro y H' ⟨rfl, rfl⟩
  refine ⟨.inl (by simp [iC]), le_ok rfl, ?_⟩
  by_cases hk : chkT (tkT o) = 0
  rotate_left
  ·rw [e, eb, if_pos hk]
   simp [hk, z49, -errV_0]
   refine finW _ (weak_nlB (o := 32) (k := 41) 36 rfl rfl) ?_
   refine finW _ (weak_nlB (o := 32) (k := 42) 3 rfl rfl) ?_
   refine finW _ (weak_nlB (o := 32) (k := 43) 34 rfl rfl) ?_
   refine finW _ (weak_nlB (o := 32) (k := 44) 34 rfl rfl) ?_
   refine finW _ (weak_nlB (o := 32) (k := 45) 2 rfl rfl) ?_
   refine finW _ (weak_nlB (o := 32) (k := 46) 2 rfl rfl) ?_
   exact fin0
  rw [e, eb, hk, if_neg (by simp)]
  simp [ld, td, -errV_0]
  refine call0 (SOwn_ok d hd) (by simp [DV]) ?_
  rintro y H' ⟨rfl, rfl⟩
  refine ⟨.inl (by simp), le_ok rfl, ?_⟩
  simp [ld, lp, pT, pD, pG, staC, bC, td49, z49, -errV_0]
  refine call0 (SOwnOut_ok o ho hn) (by simp [outC, iC]) ?_
  rintro y H' ⟨rfl, rfl⟩
  refine ⟨.inl (by simp [outC, iC]), le_ok rfl, ?_⟩
  simp [outC, iC, ld, lp, pT, pD, pG, staC, bC, td49, z49, -errV_0]
  refine ⟨⟨by omega, by omega⟩, ?_⟩
  refine finW _ (weak_frz (o := 416) (ty := 102) (es := 34) (xs := coiv d.i0) rfl) ?_
  refine finW _ (weak_frz (o := 417) (ty := 102) (es := 34) (xs := coiv d.i1) rfl) ?_
  refine finW _ (weak_frz (o := 419) (ty := 100) (es := 2) (xs := outv d.o1) rfl) ?_
  refine finW _ (weak_frz (o := 576) (ty := 100) (es := 2) (xs := outv d.o0 ++ [[.lit (.int .i64 o.am), .sl 35 (brav o.cs)]]) rfl) ?_
  generalize hq : (Dea.mk d.p d.s d.i0 d.i1 (d.o0 ++ [o]) d.o1 d.r0 d.r1) = d'
  refine fin [] (v := DE (d', 0)) (y := DE (d', 0)) (by decide) ?_ ?_ rfl ⟨rfl, rfl⟩
  ·subst hq
   simp [resV, resT, evT, DE, deaC, staC, deaT, bC, lp, pT, pD, pG, f2, asT, coiv, outv, outF, iF, List.tkL, -errV_0]
   rfl
  ·simp [conR, conT, conTs, DE, -errV_0]
 ·have e : spT d 1 o = (if tE o d.o1.length ≠ 0 then (zDea, tE o d.o1.length) else (⟨d.p, d.s, d.i0, d.i1, d.o0, d.o1 ++ [o], d.r0, d.r1⟩, 0)) := by unfold spT; rw [if_neg (by simp [hO])]; rw [if_neg (by decide)]
  simp [ld, e45, e46, -errV_0]
  refine alt (fun hl => ?_) (fun hl => ?_)
  ·have eb : tE o d.o1.length = 30 := if_pos (by omega)
   rw [e, eb]
   simp [z49, -errV_0]
   refine finW _ (weak_nlB (o := 32) (k := 41) 36 rfl rfl) ?_
   refine finW _ (weak_nlB (o := 32) (k := 42) 3 rfl rfl) ?_
   refine finW _ (weak_nlB (o := 32) (k := 43) 34 rfl rfl) ?_
   refine finW _ (weak_nlB (o := 32) (k := 44) 34 rfl rfl) ?_
   refine finW _ (weak_nlB (o := 32) (k := 45) 2 rfl rfl) ?_
   refine finW _ (weak_nlB (o := 32) (k := 46) 2 rfl rfl) ?_
   exact fin0
  have hl' : ¬ (30 ≤ d.o1.length) := by omega
  have eb : tE o d.o1.length = chkT (tkT o) := if_neg hl'
  simp [ld, td, zI, hzf_len, -errV_0]
  refine call0 hC (by simp [outF, iF, iC]) ?_
  rintro y H' ⟨rfl, rfl⟩
  refine ⟨.inl (by simp [iC]), le_ok rfl, ?_⟩
  by_cases hk : chkT (tkT o) = 0
  rotate_left
  ·rw [e, eb, if_pos hk]
   simp [hk, z49, -errV_0]
   refine finW _ (weak_nlB (o := 32) (k := 41) 36 rfl rfl) ?_
   refine finW _ (weak_nlB (o := 32) (k := 42) 3 rfl rfl) ?_
   refine finW _ (weak_nlB (o := 32) (k := 43) 34 rfl rfl) ?_
   refine finW _ (weak_nlB (o := 32) (k := 44) 34 rfl rfl) ?_
   refine finW _ (weak_nlB (o := 32) (k := 45) 2 rfl rfl) ?_
   refine finW _ (weak_nlB (o := 32) (k := 46) 2 rfl rfl) ?_
   exact fin0
  rw [e, eb, hk, if_neg (by simp)]
  simp [ld, td, -errV_0]
  refine call0 (SOwn_ok d hd) (by simp [DV]) ?_
  rintro y H' ⟨rfl, rfl⟩
  refine ⟨.inl (by simp), le_ok rfl, ?_⟩
  simp [ld, lp, pT, pD, pG, staC, bC, td49, z49, -errV_0]
  refine call0 (SOwnOut_ok o ho hn) (by simp [outC, iC]) ?_
  rintro y H' ⟨rfl, rfl⟩
  refine ⟨.inl (by simp [outC, iC]), le_ok rfl, ?_⟩
  simp [outC, iC, ld, lp, pT, pD, pG, staC, bC, td49, z49, -errV_0]
  refine ⟨⟨by omega, by omega⟩, ?_⟩
  refine finW _ (weak_frz (o := 416) (ty := 102) (es := 34) (xs := coiv d.i0) rfl) ?_
  refine finW _ (weak_frz (o := 417) (ty := 102) (es := 34) (xs := coiv d.i1) rfl) ?_
  refine finW _ (weak_frz (o := 418) (ty := 100) (es := 2) (xs := outv d.o0) rfl) ?_
  refine finW _ (weak_frz (o := 576) (ty := 100) (es := 2) (xs := outv d.o1 ++ [[.lit (.int .i64 o.am), .sl 35 (brav o.cs)]]) rfl) ?_
  generalize hq : (Dea.mk d.p d.s d.i0 d.i1 d.o0 (d.o1 ++ [o]) d.r0 d.r1) = d'
  refine fin [] (v := DE (d', 0)) (y := DE (d', 0)) (by decide) ?_ ?_ rfl ⟨rfl, rfl⟩
  ·subst hq
   simp [resV, resT, evT, DE, deaC, staC, deaT, bC, lp, pT, pD, pG, f2, asT, coiv, outv, outF, iF, List.tkL, -errV_0]
   rfl
  ·simp [conR, conT, conTs, DE, -errV_0]
end Go.Proofs.YtddcceahaigodaaGreatDoor
