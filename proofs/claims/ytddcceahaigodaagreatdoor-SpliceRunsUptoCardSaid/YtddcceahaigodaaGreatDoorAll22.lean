import Derived.Test.YtddcceahaigodaaGreatDoorAll21
import Derived.Test.YtddcceahaigodaaGreatDoorAll17
import Derived.Test.YtddcceahaigodaaGreatDoorAll18
set_option maxHeartbeats 64000000
namespace Go.Proofs.YtddcceahaigodaaGreatDoor
open Go Go.EW
set_option linter.unusedSimpArgs false
set_option linter.unusedVariables false
def yl19g : UL | _ => [xM 5 24 29, xX 6 30 0 24, xX 7 31 1 24, ⟨9, none, none, (.fz (.sto 49 (.t 7) (.t 30))), [7]⟩, xM 10 8 31]
def yl19h : UL | _ => xD 0 25 38 3 :: xD 2 27 5 4 :: xQ 8 7 (.alloc 49 (zU8 ++ [xZ, xZ, xZ, xZ, xZ, xZ, xZ, xZ, xZ, xS, xS, xS, xS, xS, xS, (.bool false), (.bool false)])) :: ⟨1, (some 26), none, (.call 9 [.t 25]), [2, 8]⟩ :: ⟨3, (some 28), none, (.call 10 [.t 27]), [8]⟩ :: ⟨4, (some 29), none, (.call 8 [.t 26, .t 28]), [8]⟩ :: hid yl19g
def yl19i : UL | _ => [xQ 6 9 (.alloc 61 (zU8 ++ [xZ, xZ, xZ, xZ, xZ, xZ, xZ, xZ, xZ, xS, xS, xS, xS, xS, xS, (.bool false), (.bool false)])), xN 7 (.fz (.sto 49 (.t 9) (.t 36))), xM 8 10 37]
def yl19j : UL | _ => xD 0 33 38 3 :: xD 1 34 5 4 :: xO 2 35 (.call 11 [.t 33, .t 34]) :: xM 3 32 35 :: xX 4 36 0 32 :: xX 5 37 1 32 :: hid yl19i
def yl19k : UL | _ => [xG 6 44 42 false (.lda 49 (.t 9)), ⟨7, (some 45), (some (42, false)), (.call 13 [.t 43, .t 44]), []⟩, xG 8 46 42 false (.un .not (.t 45)), xP 9 47 42 46]
def yl19l : UL | _ => xM 0 38 8 :: xO 1 39 (.call 12 [.t 38]) :: xM 2 40 10 :: xb 3 41 .neq 39 40 :: xM 4 42 41 :: xG 5 43 42 false (.lda 49 (.t 7)) :: hid yl19k
def yl19p : UL | _ => [xG 6 54 52 true (.bin .lss (.t 53) (xK 40)), xR 7 55 52 54]
def yl19q : UL | _ => xM 0 48 11 :: xM 1 49 2 :: xE 2 50 49 :: xb 3 51 .lss 48 50 :: xM 4 52 51 :: yM 5 53 52 true 11 :: hid yl19p
def yl19r : UL | _ => [xM 0 58 2, xM 1 59 11, xI 2 60 39 58 59, xF 3 61 36 60, xD 4 62 3 61, xO 5 63 (.call 14 [.t 62])]
def yl19s : UL | _ => [xD 0 64 49 9, xO 1 65 (.call 15 [.t 64]), xQ 2 12 (.alloc 49 (zU8 ++ [xZ, xZ, xZ, xZ, xZ, xZ, xZ, xZ, xZ, xS, xS, xS, xS, xS, xS, (.bool false), (.bool false)])), xN 3 (.fz (.sto 49 (.t 12) (.t 65)))]
def yl19t : UL | _ => [xX 10 76 2 66, ⟨13, none, none, (.fz (.sto 49 (.t 13) (.t 74))), [9, 10]⟩, ⟨14, none, none, (.fz (.sto 49 (.t 14) (.t 75))), [10]⟩, xM 15 15 76]
def yl19u : UL | _ => xQ 11 13 (.alloc 49 (zU8 ++ [xZ, xZ, xZ, xZ, xZ, xZ, xZ, xZ, xZ, xS, xS, xS, xS, xS, xS, (.bool false), (.bool false)])) :: xQ 12 14 (.alloc 61 (zU8 ++ [xZ, xZ, xZ, xZ, xZ, xZ, xZ, xZ, xZ, xS, xS, xS, xS, xS, xS, (.bool false), (.bool false)])) :: ⟨6, (some 73), none, (.call 16 [.t 67, .t 68, .t 72]), [11, 12]⟩ :: xM 7 66 73 :: xX 8 74 0 66 :: xX 9 75 1 66 :: hid yl19t
def yl19v : UL | _ => xD 0 67 49 7 :: xD 1 68 49 9 :: xM 2 69 2 :: xM 3 70 11 :: xI 4 71 39 69 70 :: xD 5 72 39 71 :: hid yl19u
def yl19w : UL | _ => [xP 18 95 85 94]
def yl19x : UL | _ => xG 12 89 85 false (.len (.t 88)) :: yF 13 90 85 false 43 7 :: xG 14 91 85 false (.iad 2 1 (.t 90) (xK 0)) :: yL 15 92 85 false 91 :: xG 16 93 85 false (.len (.t 92)) :: xG 17 94 85 false (.bin .neq (.t 89) (.t 93)) :: hid yl19w
def yl19y : UL | _ => xG 6 83 79 false (.un .not (.t 82)) :: xP 7 84 79 83 :: xM 8 85 84 :: yF 9 86 85 false 43 12 :: xG 10 87 85 false (.iad 2 1 (.t 86) (xK 0)) :: yL 11 88 85 false 87 :: hid yl19x
def yl19z : UL | _ => xM 0 77 15 :: xQ 1 78 (.un .not (.t 77)) :: xM 2 79 78 :: xG 3 80 79 false (.lda 49 (.t 7)) :: xG 4 81 79 false (.lda 49 (.t 9)) :: ⟨5, (some 82), (some (79, false)), (.call 13 [.t 80, .t 81]), []⟩ :: hid yl19y
def yl1a2 : UL | _ => [xD 0 96 49 13, xD 1 97 49 14, ⟨2, none, none, (.fz (.sto 49 (.t 7) (.t 96))), [1]⟩, xN 3 (.fz (.sto 49 (.t 9) (.t 97)))]
def yl1a5 : UL | _ => [xM 6 17 106, xM 7 18 107]
def yl1a6 : UL | _ => xD 0 103 49 7 :: xM 1 104 16 :: xO 2 105 (.call 17 [.t 103, .t 104]) :: xM 3 102 105 :: xX 4 106 0 102 :: xX 5 107 1 102 :: hid yl1a5
def yl1a7 : UL | _ => [xM 6 19 112, xM 7 20 113]
def yl1a8 : UL | _ => xD 0 109 49 9 :: xM 1 110 16 :: xO 2 111 (.call 18 [.t 109, .t 110]) :: xM 3 108 111 :: xX 4 112 0 108 :: xX 5 113 1 108 :: hid yl1a7
def yl1a9 : UL | _ => [yM 6 120 117 false 20, xG 7 121 117 false (.bin .neq (.t 119) (.t 120)), xP 8 122 117 121]
def yl1aa : UL | _ => xM 0 114 17 :: xM 1 115 19 :: xb 2 116 .neq 114 115 :: xM 3 117 116 :: yM 4 118 117 false 18 :: ⟨5, (some 119), (some (117, false)), (.call 12 [.t 118]), []⟩ :: hid yl1a9
def yb1ad : UB | _ => .seq (reg0 (hid yl1a6) 8) (.seq (reg0 (hid yl1a8) 8) (.seq (reg0 (hid yl1aa) 9) (.cond (.t 122) (.seq (reg0 [xQ 0 6 (.mov (.k (.bool false)))] 1) .ret) .skip)))
def yb1af : UB | _ => .seq (.seq (reg0 [xM 0 98 16, xc 1 99 .lss 98 3] 2) (.cond (.t 99) .skip (.exit 2))) (.seq (.block 3 (hid yb1ad)) (reg0 [xM 0 100 16, xc 1 101 .add 100 1, xM 2 16 101] 3))
def yb1ag : UB | _ => .seq (reg1 (hid yl1a2) 4) (.seq (reg0 [xQ 0 16 (.mov (.k (.int .i64 (-1))))] 1) (.block 2 (.loop (hid yb1af))))
def yb1ah : UB | _ => .seq (reg1 (hid yl19v) 16) (.seq (.seq (reg0 (hid yl19z) 19) (.cond (.t 95) (.seq (reg0 [xQ 0 6 (.mov (.k (.bool false)))] 1) .ret) .skip)) (hid yb1ag))
def yb1ai : UB | _ => .seq (.seq (reg0 (hid yl19r) 6) (.cond (.t 63) (.exit 1) .skip)) (.seq (reg0 (hid yl19s) 4) (hid yb1ah))
def yb1ak : UB | _ => .seq (.seq (reg0 (hid yl19q) 8) (.cond (.t 55) .skip (.exit 0))) (.seq (.block 1 (hid yb1ai)) (reg0 [xM 0 56 11, xc 1 57 .add 56 1, xM 2 11 57] 3))
def yb1am : UB | _ => .seq (.seq (reg0 [xC 0 11 0] 1) (.block 0 (.loop (hid yb1ak)))) (.seq (reg0 [xO 0 123 (.call 7 []), xM 1 6 123] 2) .ret)
def yb1an : UB | _ => .seq (reg0 (hid yl19j) 9) (.seq (.seq (reg0 (hid yl19l) 10) (.cond (.t 47) (.seq (reg0 [xQ 0 6 (.mov (.k (.bool false)))] 1) .ret) .skip)) (hid yb1am))
def yb1ao : UB | _ => .seq (.seq (reg0 [xD 0 21 5 4, xO 1 22 (.call 6 [.t 21])] 2) (.cond (.t 22) (.seq (reg0 [xO 0 23 (.call 7 []), xM 1 6 23] 2) .ret) .skip)) (.seq (reg1 (hid yl19h) 11) (hid yb1an))
def yb1ap : UB | _ => .seq (reg0 [xW 0 3 28 0, xW 1 4 32 1, xQ 2 6 (.mov (.k (.bool false)))] 3) (hid yb1ao)
attribute [simp] yl19g yl19h yl19i yl19j yl19k yl19l yl19p yl19q yl19r yl19s yl19t yl19u yl19v yl19w yl19x yl19y yl19z yl1a2 yl1a5 yl1a6 yl1a7 yl1a8 yl1a9 yl1aa yb1ad yb1af yb1ag yb1ah yb1ai yb1ak yb1am yb1an yb1ao yb1ap
def c_SRuns : EB × List QOp × Nat := ((hid yb1ap), [(.mov (.t 6))], 124)
theorem k_SRuns : cfun Tryz.prog 3 = some c_SRuns := by kernel_rfl
def actv (l : List Acn) : List (List FV) := l.map actF
@[simp] theorem conAll_actC (H : Nat → Option EO) (ids : List Nat) (p : Acn) : conAll H ids (actC p) = some (actC p) := by rw [← actF_fz]; exact conAll_mp H ids _
@[simp] theorem fz_actC (ids : List Nat) (p : Acn) : (actC p).flatMap (fzC ids) = [] := by rw [← actF_fz]; exact fz_mp ids _
@[simp] theorem ren_actC (g : Nat → Nat) (p : Acn) : (actC p).map (renC g) = actC p := by rw [← actF_fz]; exact ren_mp g _
@[simp] theorem actv_len (l : List Acn) : (actv l).length = l.length := by simp [actv]
theorem gd_N {p : Prm} {s : Sta} (hp : p.ok) (hs : s.ok) (hm : s.small) : (spN p s).1.gd := by
 unfold spN
 split
 ·exact gd_z
 ·refine ⟨⟨hp, hs, by simp, by simp, by simp, by simp, by simp, by simp, by simp, by simp, by simp, by simp⟩, hm, by simp, by simp, by simp, by simp, by simp, by simp⟩
set_option maxRecDepth 8000 in
theorem SpliceRuns_ok (p : Prm) (s : Sta) (l : List Acn) (hp : p.ok) (hs : s.ok) (hl : ∀ a ∈ l, a.ok) (hn : l.length ≤ 1048576) : ECalls Tryz.prog 3 [PVv p, SV s, .v (.c (.fz (.sl 39 (actv l))))] [] fun y H' => H' = [] ∧ y = .lit (.bool true) := by
 have lp := prmC_len hp.1
 have tp := pm_take hp.1
 refine ecalls k_SRuns ?_
 simp [c_SRuns, PVv, SV, staC]
 refine call0 (longState_ok s hs) (by simp [SV, staC]) ?_
 rintro y H' ⟨rfl, rfl⟩
 refine ⟨.inl (by simp), le_ok rfl, ?_⟩
 cases hL : longS s
 rotate_left
 ·simp
  refine call0 Ssure_ok (by simp) ?_
  rintro y H' ⟨rfl, rfl⟩
  refine ⟨.inl (by simp), le_ok rfl, ?_⟩
  try simp
  exact fin0
 have hm := (longS_small hL).1
 simp [lp, tp]
 refine call0 (giveP_ok p hp.1) (by simp [PVv]) ?_
 rintro y H' ⟨rfl, rfl⟩
 refine ⟨.inl (by simp), le_ok rfl, ?_⟩
 simp [PVv, lp, tp]
 refine call0 (giveState_ok s hs hm) (by simp [SV, staC]) ?_
 rintro y H' ⟨rfl, rfl⟩
 refine ⟨.inl (by simp), le_ok rfl, ?_⟩
 simp [PVv, SV, staC, lp, tp]
 refine call0 (SNew_ok p s hp hs) (by simp [PVv, SV, staC]) ?_
 rintro y H' ⟨rfl, rfl⟩
 refine ⟨.inl (by simp [DE]), le_ok rfl, ?_⟩
 have hg0 := gd_N hp hs hm
 have hR := RNew_ok p s hp hs
 generalize spN p s = Q at hg0 hR ⊢
 obtain ⟨D, E⟩ := Q
 have hg0 : D.gd := hg0
 obtain ⟨l1, t1, d1⟩ := D0_len D hg0.1.1.1
 simp [DE, lp, tp, l1, t1, d1, z49, -errV_0]
 refine call0 hR (by simp [PVv, SV, staC]) ?_
 rintro y H' ⟨rfl, rfl⟩
 refine ⟨.inl (by simp [RDE, iC]), le_ok rfl, ?_⟩
 simp [RDE, iC, lp, tp, l1, t1, d1, z49, -errV_0]
 refine call0 (num_e E) (by simp) ?_
 rintro y H' ⟨rfl, rfl⟩
 refine ⟨.inl (by simp [I]), le_ok rfl, ?_⟩
 simp [I, l1, t1, d1, z49, -errV_0]
 refine call0 (Ssame_ok D hg0) (by simp [DV]) ?_
 rintro y H' ⟨rfl, rfl⟩
 refine ⟨.inl (by simp), le_ok rfl, ?_⟩
 simp [I, l1, t1, d1, z49, -errV_0]
 refine eloop (α := Nat × Dea) (fun a => a.1 ≤ l.length ∧ a.2.gd) (fun a => l.length - a.1)
  (fun a => [xA, xA, .v (.c (.fz (.sl 39 (actv l)))), xA, xA, xA, xA, Ptr 0, xA, Ptr 1, xA, I .i64 a.1, xA, xA, xA, xA, xA, xA, xA, xA, xA, xA, xA, xA, xA, xA, xA, xA, xA, xA, xA, xA, xA, xA, xA, xA, xA, xA, xA, xA, xA, xA, xA, xA, xA, xA, xA, xA, xA, xA, xA, xA, xA, xA, xA, xA, xA, xA, xA, xA, xA, xA, xA, xA, xA, xA, xA, xA, xA, xA, xA, xA, xA, xA, xA, xA, xA, xA, xA, xA, xA, xA, xA, xA, xA, xA, xA, xA, xA, xA, xA, xA, xA, xA, xA, xA, xA, xA, xA, xA, xA, xA, xA, xA, xA, xA, xA, xA, xA, xA, xA, xA, xA, xA, xA, xA, xA, xA, xA, xA, xA, xA, xA, .any]) (fun a => [some (.box 49 (deaC a.2)), some (.box 61 (deaC a.2))]) (0, D) [208, 352]
  ⟨Nat.zero_le _, hg0⟩ (by simp [Ptr, I]) (by simp) (by simp) (by simp) (by simp) ?_
 clear hg0 hR l1 t1 d1
 rintro ⟨i, d⟩ ⟨hi, hg⟩
 dsimp only at hi hg
 obtain ⟨l1, t1, d1⟩ := D0_len d hg.1.1.1
 simp [Ptr, I, -Int.natCast_add]
 by_cases c1 : i < l.length
 rotate_left
 ·have c1' : ¬ (i : Int) < l.length := by omega
  simp [c1, c1', -Int.natCast_add]
  refine call0 Ssure_ok (by simp) ?_
  rintro y H' ⟨rfl, rfl⟩
  refine ⟨.inl (by simp), le_ok rfl, ?_⟩
  try simp
  exact fin0
 have c1' : (i : Int) < l.length := by omega
 by_cases c2 : i < 40
 rotate_left
 ·have c2' : ¬ (i : Int) < 40 := by omega
  simp [c1, c1', c2, c2', -Int.natCast_add]
  refine call0 Ssure_ok (by simp) ?_
  rintro y H' ⟨rfl, rfl⟩
  refine ⟨.inl (by simp), le_ok rfl, ?_⟩
  try simp
  exact fin0
 have c2' : (i : Int) < 40 := by omega
 obtain ⟨a, hca⟩ : ∃ a, l[i]? = some a := ⟨l[i], by simp [c1]⟩
 have hge : (actv l)[i]'(by simp [actv, c1]) = actF a := by
  have e : (actv l)[i]? = some (actF a) := by simp [actv, hca]
  rw [List.getElem?_eq_getElem (by simp [actv, c1])] at e
  exact Option.some.inj e
 have hal : (actv l).length = l.length := by simp [actv]
 have ha := hl a (List.mgE hca)
 have lc := coiC_len ha.2.2.1.1
 have la : (actC a).length = 39 := by simp [actC, lc, txC]
 have laf : (actF a).length = 39 := by have := congrArg List.length (actF_fz a); simpa [la] using this
 have ta : List.take 39 (actC a) = actC a := List.tkL (by omega)
 have A36 : List.drop 36 (actC a) = txC a.t := by
  show List.drop 34 (coiC a.coin ++ txC a.t) = _
  rw [← lc, List.drop_left]
 have w1 := wS (i := i) (by omega)
 simp [c1, c1', c2, c2', hal, hge, actF_fz, la, laf, A36, txC, iC, -Int.natCast_add]
 refine call0 (longTx_ok a.t ha.2.2.2) (by simp [TXv, txC, iC]) ?_
 rintro y H' ⟨rfl, b, rfl⟩
 refine ⟨.inl (by simp [TXv, txC, iC]), le_ok rfl, ?_⟩
 cases b
 rotate_left
 ·simp [w1, -Int.natCast_add]
  exact round (i + 1, d) [0, 1] ⟨by dsimp only; omega, hg⟩ (by dsimp only; omega) (by simp [Ptr, I, -Int.natCast_add]) (by simp) (by simp) (by simp) (by simp)
 simp [l1, t1, d1, -Int.natCast_add]
 refine call0 (SgiveD_ok d hg) (by simp [DV]) ?_
 rintro y H' ⟨rfl, rfl⟩
 refine ⟨.inl (by simp [DV]), le_ok rfl, ?_⟩
 simp [DV, l1, t1, d1, z49, hal, hge, actF_fz, la, laf, ta, c1, -Int.natCast_add]
 refine call0 (Sstep_ok d a hg ha) (by simp [DV]) ?_
 rintro y H' ⟨rfl, d', hg', rfl⟩
 obtain ⟨l2, t2, d2⟩ := D0_len d' hg'.1.1.1
 refine ⟨.inl (by simp [DV, -List.flatMap_eq_nil_iff]), le_ok rfl, ?_⟩
 simp [STV, l1, t1, d1, l2, t2, d2, z49, -Int.natCast_add]
 refine call0 (Ssame_ok d hg) (by simp [DV]) ?_
 rintro y H' ⟨rfl, rfl⟩
 refine ⟨.inl (by simp), le_ok rfl, ?_⟩
 have e43 := idx_of (show (deaC d)[43]? = some (.fz (.sl 34 (coiv d.i0))) from pmG (prmC_len hg.1.1.1) _ 5) (by omega)
 simp [l1, t1, d1, l2, t2, d2, z49, e43, -Int.natCast_add]
 refine eloop (α := Nat) (fun j => j ≤ 4) (fun j => 4 - j)
  (fun j => [xA, xA, .v (.c (.fz (.sl 39 (actv l)))), xA, xA, xA, xA, Ptr 0, xA, Ptr 1, xA, I .i64 i, xA, xA, xA, xA, I .i64 ((j : Int) - 1), xA, xA, xA, xA, xA, xA, xA, xA, xA, xA, xA, xA, xA, xA, xA, xA, xA, xA, xA, xA, xA, xA, xA, xA, xA, xA, xA, xA, xA, xA, xA, xA, xA, xA, xA, xA, xA, xA, xA, xA, xA, xA, xA, xA, xA, xA, xA, xA, xA, xA, xA, xA, xA, xA, xA, xA, xA, xA, xA, xA, xA, xA, xA, xA, xA, xA, xA, xA, xA, xA, xA, xA, xA, xA, xA, xA, xA, xA, xA, xA, xA, xA, xA, xA, xA, xA, xA, xA, xA, xA, xA, xA, xA, xA, xA, xA, xA, xA, xA, xA, xA, xA, xA, xA, xA, xA, .any]) (fun _ => [some (.box 49 (deaC d')), some (.box 61 (deaC d'))]) 0 [0, 1]
  (by omega) (by simp [Ptr, I]) (by simp) (by simp) (by simp) (by simp) ?_
 intro j hj
 simp [Ptr, I, -Int.natCast_add]
 refine alt (fun hlt => ?_) (fun hlt => ?_)
 ·have cj : i64 ((j : Int) - 1) := by unfold i64; omega
  have wj : IntKind.i64.wrap (j : Int) = ((j + 1 : Nat) : Int) - 1 := by rw [wrap_i64 (by omega) (by omega)]; omega
  simp [l2, t2, d2, -Int.natCast_add]
  refine call0 (SGain_ok d' _ hg'.1 cj) (by simp [DV, I]) ?_
  rintro y H' ⟨rfl, rfl⟩
  refine ⟨.inl (by simp [GE, iC]), le_ok rfl, ?_⟩
  simp [GE, iC, l2, t2, d2, -errV_0, -Int.natCast_add]
  refine call0 (RGain_ok d' _ hg'.1 cj) (by simp [DV, I]) ?_
  rintro y H' ⟨rfl, rfl⟩
  refine ⟨.inl (by simp [RGE, iC]), le_ok rfl, ?_⟩
  simp [RGE, iC, l2, t2, d2, -errV_0, -Int.natCast_add]
  refine call0 (num_e (spG d' ((j : Int) - 1)).2) (by simp) ?_
  rintro y H' ⟨rfl, rfl⟩
  refine ⟨.inl (by simp [I]), le_ok rfl, ?_⟩
  simp [I, wj, -errV_0, -Int.natCast_add]
  exact round (j + 1) [0, 1] (by omega) (by omega) (by simp [Ptr, I, -Int.natCast_add]) (by simp) (by simp) (by simp) (by simp)
 ·simp [w1, -Int.natCast_add]
  exact round (i + 1, d') [0, 1] ⟨by dsimp only; omega, hg'⟩ (by dsimp only; omega) (by simp [Ptr, I, -Int.natCast_add]) (by simp) (by simp) (by simp) (by simp)
def Acn.ok0 (a : Acn) : Prop := i64 a.kind ∧ i64 a.side ∧ a.coin.ok ∧ a.t.ok0
def actW (a : Acn) : Nat := txW a.t + 1
theorem opn_coi : Opn BB Tryz.prog 68 coiF Coi.ok (fun _ => 1) :=
 (opn_struct (tot := 34) bok Tryz.underlying68 (by kernel_rfl)
  (opnFs_cons bok (n := 33) (tot := 1) opn_outV rfl (by kernel_rfl) (opnFs_cons bok (n := 1) (tot := 0) opn_i64 rfl (by kernel_rfl) opnFs_nil))).map
  (fun p => (⟨p.1.1, p.1.2, p.2.1⟩ : Coi)) (by rintro ⟨⟨a, a'⟩, b, u⟩ _; simp [coiF, iF]) (by rintro ⟨⟨a, a'⟩, b, u⟩ h; exact ⟨h.1.1, h.1.2, h.2.1⟩) (by rintro ⟨⟨a, a'⟩, b, u⟩ _; simp)
theorem opn_act : Opn BB Tryz.prog 73 actF Acn.ok0 actW :=
 (opn_struct (tot := 39) bok Tryz.underlying73 (by kernel_rfl)
  (opnFs_cons bok (n := 1) (tot := 38) opn_i64 rfl (by kernel_rfl) (opnFs_cons bok (n := 1) (tot := 37) opn_i64 rfl (by kernel_rfl)
   (opnFs_cons bok (n := 34) (tot := 3) opn_coi rfl (by kernel_rfl) (opnFs_cons bok (n := 3) (tot := 0) opn_txn rfl (by kernel_rfl) opnFs_nil))))).map
  (fun p => (⟨p.1, p.2.1, p.2.2.1, p.2.2.2.1⟩ : Acn)) (by rintro ⟨a, b, c, d, u⟩ _; simp [actF, iF]) (by rintro ⟨a, b, c, d, u⟩ h; exact ⟨h.1, h.2.1, h.2.2.1, h.2.2.2.1⟩) (by rintro ⟨a, b, c, d, u⟩ _; simp [actW]; try omega)
theorem opn_acts : Opn BB Tryz.prog 33 (fun l : List Acn => [FV.sl 39 (actv l)]) (fun l => ∀ b ∈ l, b.ok0) (fun l => sumB actW l) :=
 (opn_slice bok (by kernel_rfl) (by kernel_rfl) (by omega) opn_act).map id (fun _ _ => rfl) (fun _ h => h.1) (fun l _ => by simp)
theorem acts_ok {l : List Acn} (h : ∀ a ∈ l, a.ok0) (hb : sumB actW l ≤ 1048576) : ∀ a ∈ l, a.ok := by
 intro a ha
 obtain ⟨_, a2⟩ := sumB_ge (w := actW) (fun _ => by unfold actW; omega) l
 have := a2 a ha
 have e : actW a = txW a.t + 1 := rfl
 obtain ⟨q1, q2, q3, q4⟩ := h a ha
 exact ⟨q1, q2, q3, txn_bk q4 (by omega)⟩
end Go.Proofs.YtddcceahaigodaaGreatDoor
