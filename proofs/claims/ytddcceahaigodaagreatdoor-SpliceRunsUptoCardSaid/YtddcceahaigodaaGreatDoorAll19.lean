import Derived.Test.YtddcceahaigodaaGreatDoorAll17
import Derived.Test.YtddcceahaigodaaGreatDoorAll13
import Derived.Test.YtddcceahaigodaaGreatDoorAll7
import Derived.Test.YtddcceahaigodaaGreatDoorAll18
set_option maxHeartbeats 64000000
namespace Go.Proofs.YtddcceahaigodaaGreatDoor
open Go Go.EW
set_option linter.unusedSimpArgs false
set_option linter.unusedVariables false
def ylx5 : UL | _ => [xM 0 5 1, xc 1 6 .neq 5 0, xM 2 7 6, yM 3 8 7 true 1, xG 4 9 7 true (.bin .neq (.t 8) (xK 1)), xR 5 10 7 9]
def ylx8 : UL | _ => [xM 0 11 1, xF 1 12 47 2, xQ 2 13 (.iad 2 1 (.t 12) (.t 11)), xL 3 14 13]
def ybxd : UB | _ => .seq (reg0 [xW 0 2 61 0, xC 1 4 0] 2) (.seq (.seq (reg0 (hid ylx5) 6) (.cond (.t 10) (.seq (reg0 [xC 0 4 33] 1) .ret) .skip)) (.seq (.seq (reg0 (hid ylx8) 4) (.cond (.t 14) (.seq (reg0 [xC 0 4 31] 1) .ret) .skip)) (.seq (reg0 [xC 0 4 0] 1) .ret)))
attribute [simp] ylx5 ylx8 ybxd
def c_ROpn : EB × List QOp × Nat := ((hid ybxd), [(.mov (.t 4))], 15)
theorem k_ROpn : cfun Tryz.prog 92 = some c_ROpn := by kernel_rfl
def ylxe : UL | _ => [xW 0 2 28 0, xW 1 3 32 1, xQ 2 4 (.alloc 61 (zU8 ++ [xZ, xZ, xZ, xZ, xZ, xZ, xZ, xZ, xZ, xS, xS, xS, xS, xS, xS, (.bool false), (.bool false)])), xC 3 5 0]
def ylxf : UL | _ => [xD 0 7 38 2, xD 1 8 5 3, xO 2 9 (.call 35 [.t 7, .t 8]), xM 3 6 9]
def ylxh : UL | _ => [xQ 0 12 (.build (zU8 ++ [xZ, xZ, xZ, xZ, xZ, xZ, xZ, xZ, xZ, xS, xS, xS, xS, xS, xS, (.bool false), (.bool false)]) []), xM 1 13 6, xN 2 (.fz (.sto 49 (.t 4) (.t 12))), xM 3 5 13]
def ylxj : UL | _ => [xD 0 14 38 2, xD 1 15 5 3, xQ 2 16 (.build (zU8 ++ [xZ, xZ, xZ, xZ, xZ, xZ, xZ, xZ, xZ, xS, xS, xS, xS, xS, xS, (.bool false), (.bool false)]) [(0, 38, .t 14), (38, 5, .t 15)]), xN 3 (.fz (.sto 49 (.t 4) (.t 16))), xC 4 5 0]
def ybxl : UB | _ => .seq (reg0 (hid ylxe) 4) (.seq (reg0 (hid ylxf) 4) (.seq (.seq (reg0 [xM 0 10 6, xc 1 11 .neq 10 0] 2) (.cond (.t 11) (.seq (reg0 (hid ylxh) 4) .ret) .skip)) (.seq (reg0 (hid ylxj) 5) .ret)))
attribute [simp] ylxe ylxf ylxh ylxj ybxl
def c_RNew : EB × List QOp × Nat := ((hid ybxl), [(.lda 49 (.t 4)), (.mov (.t 5))], 17)
theorem k_RNew : cfun Tryz.prog 11 = some c_RNew := by kernel_rfl
def ylxm : UL | _ => [xW 0 2 61 0, xQ 1 4 (.alloc 61 (zU8 ++ [xZ, xZ, xZ, xZ, xZ, xZ, xZ, xZ, xZ, xS, xS, xS, xS, xS, xS, (.bool false), (.bool false)])), xC 2 5 0]
def ylxn : UL | _ => [xD 0 7 49 2, xM 1 8 1, xO 2 9 (.call 92 [.t 7, .t 8]), xM 3 6 9]
def ylxp : UL | _ => [xQ 0 12 (.build (zU8 ++ [xZ, xZ, xZ, xZ, xZ, xZ, xZ, xZ, xZ, xS, xS, xS, xS, xS, xS, (.bool false), (.bool false)]) []), xM 1 13 6, xN 2 (.fz (.sto 49 (.t 4) (.t 12))), xM 3 5 13]
def ylxr : UL | _ => [xM 0 14 1, xF 1 15 47 2, xQ 2 16 (.iad 2 1 (.t 15) (.t 14)), xN 3 (.sto 1 (.t 16) (.k (.bool true)))]
def ybxu : UB | _ => .seq (reg0 (hid ylxm) 3) (.seq (reg0 (hid ylxn) 4) (.seq (.seq (reg0 [xM 0 10 6, xc 1 11 .neq 10 0] 2) (.cond (.t 11) (.seq (reg0 (hid ylxp) 4) .ret) .skip)) (.seq (reg0 (hid ylxr) 4) (.seq (reg0 [xD 0 17 49 2, xN 1 (.fz (.sto 49 (.t 4) (.t 17))), xC 2 5 0] 3) .ret))))
attribute [simp] ylxm ylxn ylxp ylxr ybxu
def c_RClo : EB × List QOp × Nat := ((hid ybxu), [(.lda 49 (.t 4)), (.mov (.t 5))], 18)
theorem k_RClo : cfun Tryz.prog 44 = some c_RClo := by kernel_rfl
def ylxw : UL | _ => [xM 0 11 1, xc 1 12 .neq 11 0, xM 2 13 12, yM 3 14 13 true 1, xG 4 15 13 true (.bin .neq (.t 14) (xK 1)), xR 5 16 13 15]
def yly1 : UL | _ => [xb 6 23 .lss 17 22]
def yly2 : UL | _ => xM 0 17 7 :: xM 1 18 1 :: xF 2 19 43 2 :: xQ 3 20 (.iad 2 1 (.t 19) (.t 18)) :: xL 4 21 20 :: xE 5 22 21 :: hid yly1
def yly3 : UL | _ => [xF 6 32 33 31, xL 7 33 32, xM 8 8 33]
def yly4 : UL | _ => xM 0 26 1 :: xF 1 27 43 2 :: xQ 2 28 (.iad 2 1 (.t 27) (.t 26)) :: xL 3 29 28 :: xM 4 30 7 :: xI 5 31 34 29 30 :: hid yly3
def yly5 : UL | _ => [xM 6 40 39, yM 7 41 40 false 6, yM 8 42 40 false 8, xG 9 43 40 false (.bin .add (.t 41) (.t 42)), xG 10 44 40 false (.bin .gtr (.t 43) (xK 1125899906842624)), xP 11 45 40 44]
def yly6 : UL | _ => xM 0 34 8 :: xc 1 35 .lss 34 0 :: xM 2 36 35 :: yM 3 37 36 false 8 :: xG 4 38 36 false (.bin .gtr (.t 37) (xK 1125899906842624)) :: xP 5 39 36 38 :: hid yly5
def ybya : UB | _ => .seq (reg0 (hid yly4) 9) (.seq (.seq (reg0 (hid yly6) 12) (.cond (.t 45) (.seq (reg0 [xC 0 4 0, xC 1 5 5] 2) .ret) .skip)) (reg0 [xM 0 46 6, xM 1 47 8, xb 2 48 .add 46 47, xM 3 6 48] 4))
def ybyc : UB | _ => .seq (.seq (reg0 (hid yly2) 7) (.cond (.t 23) .skip (.exit 0))) (.seq (.block 1 (hid ybya)) (reg0 [xM 0 24 7, xc 1 25 .add 24 1, xM 2 7 25] 3))
def ylyd : UL | _ => [xM 6 49 55, xX 7 56 0 49, xX 8 57 1 49, xM 9 9 56, xM 10 10 57]
def ylye : UL | _ => xM 0 50 1 :: xF 1 51 45 2 :: xQ 2 52 (.iad 2 1 (.t 51) (.t 50)) :: xL 3 53 52 :: xQ 4 54 (.build [xZ, xS, xS] [(2, 1, .t 53)]) :: xO 5 55 (.call 47 [.t 54]) :: hid ylyd
def ybyj : UB | _ => .seq (reg0 (hid ylye) 11) (.seq (.seq (reg0 [xM 0 58 10, xc 1 59 .neq 58 0] 2) (.cond (.t 59) (.seq (reg0 [xM 0 60 10, xC 1 4 0, xM 2 5 60] 3) .ret) .skip)) (.seq (reg0 [xM 0 61 6, xM 1 62 9, xb 2 63 .sub 61 62, xM 3 4 63, xC 4 5 0] 5) .ret))
def ybyk : UB | _ => .seq (.seq (reg0 [xC 0 7 0] 1) (.block 0 (.loop (hid ybyc)))) (hid ybyj)
def ybyl : UB | _ => .seq (reg0 [xW 0 2 61 0, xC 1 4 0, xC 2 5 0] 3) (.seq (.seq (reg0 (hid ylxw) 6) (.cond (.t 16) (.seq (reg0 [xC 0 4 0, xC 1 5 33] 2) .ret) .skip)) (.seq (reg0 [xC 0 6 0] 1) (hid ybyk)))
attribute [simp] ylxw yly1 yly2 yly3 yly4 yly5 yly6 ybya ybyc ylyd ylye ybyj ybyk ybyl
def c_RGain : EB × List QOp × Nat := ((hid ybyl), [(.mov (.t 4)), (.mov (.t 5))], 64)
theorem k_RGain : cfun Tryz.prog 18 = some c_RGain := by kernel_rfl
theorem weak_nlR {m n o : Nat} {T : List EV} {H : Nat → Option EO} {tb : TypeId} {cells cells' : List EC} (ho : H o = some (.box tb cells')) (hn : NlR cells' cells) :
  Weak m ⟨T, H, n⟩ ⟨T, upd H o (some (.box tb cells)), n⟩ := by
 rintro w0 ρ0 Φ0 a w ⟨⟨X, rfl, r, hall, hd, hU⟩, hm⟩
 have live : ∀ i x, upd H o (some (.box tb cells)) i = some x → ∃ x', H i = some x' ∧ ((i = o ∧ x = .box tb cells) ∨ x' = x) ∧ ∀ v k, ft x v k → ft x' v k := by
  intro i x hx
  by_cases h : i = o
  ·subst h; rw [upd_same] at hx; exact ⟨_, ho, .inl ⟨rfl, (Option.some.inj hx).symm⟩, by obtain rfl := Option.some.inj hx; exact fun v k hk => hk⟩
  ·rw [upd_ne _ _ _ h] at hx; exact ⟨x, hx, .inr rfl, fun _ _ h => h⟩
 refine ⟨⟨X, rfl, ⟨r.os, r.tape, r.output, r.size, r.block, r.pin, ?_, ?_, ?_, ?_, r.fro, r.phi, r.glob⟩, hall, hd, hU⟩, hm⟩
 ·intro i x hx
  obtain ⟨x', hx', h, _⟩ := live i x hx
  obtain ⟨hu, hor⟩ := r.obj i x' hx'
  refine ⟨hu, ?_⟩
  rcases h with ⟨rfl, rfl⟩ | rfl
  ·rw [ho] at hx'
   obtain rfl := Option.some.inj hx'
   obtain ⟨b, c, q1, q2, q3⟩ := hor
   exact ⟨b, c, q1, q2, hn.all2 q3⟩
  ·exact hor
 ·intro i i' x x' b h1 h2 e1 e2
  obtain ⟨_, q1, _, f1⟩ := live i x h1
  obtain ⟨_, q2, _, f2⟩ := live i' x' h2
  exact r.inj i i' _ _ b q1 q2 (f1 _ _ e1) (f2 _ _ e2)
 ·intro i x b h1 e1
  obtain ⟨_, q1, _, f1⟩ := live i x h1
  exact r.own i _ b q1 (f1 _ _ e1)
 ·intro i x b h1 e1
  obtain ⟨_, q1, _, f1⟩ := live i x h1
  exact r.dis i _ b q1 (f1 _ _ e1)
theorem ROpn_ok (d : Dea) (side : Int) (hd : d.ok) (hs : i64 side) : ECalls Tryz.prog 92 [DV d, I .i64 side] [] fun y H' => H' = [] ∧ y = I .i64 (spO d side) := by
 have lp := prmC_len hd.1.1
 have pT := pmT lp
 have pD := pmD lp
 have pG := pmG lp
 refine ecalls k_ROpn ?_
 simp only [DV, deaC, deaT, staC, bC]
 generalize prmC d.p = L at lp pT pD pG ⊢
 by_cases c0 : side = 0
 ·subst c0
  simp [c_ROpn, I, lp, pT, pD, pG, spO]
  cases hr : d.r0
  ·simp
   exact fin0
  ·simp
   exact fin0
 by_cases c1 : side = 1
 ·subst c1
  simp [c_ROpn, I, lp, pT, pD, pG, spO]
  cases hr : d.r1
  ·simp
   exact fin0
  ·simp
   exact fin0
 have e : spO d side = 33 := by simp [spO, c0, c1]
 rw [e]
 simp [c_ROpn, I, lp, pT, pD, pG, c0, c1]
 exact fin0
set_option maxRecDepth 8000 in
theorem RNew_ok (p : Prm) (s : Sta) (hp : p.ok) (hs : s.ok) : ECalls Tryz.prog 11 [PVv p, SV s] [] fun y H' => H' = [] ∧ y = RDE (spN p s) := by
 have lp := prmC_len hp.1
 have pT := pmT lp
 have pD := pmD lp
 have pG := pmG lp
 have q38 := p38 hp.1
 have q38' := pm_take hp.1
 have f2 := (fzL_prm p).all.fz
 refine ecalls k_RNew ?_
 simp [c_RNew, PVv, SV, staC, lp, pT, pD, pG, q38']
 refine call0 (RBCheck_ok p s hp hs) (by simp [PVv, SV, staC]) ?_
 rintro y H' ⟨rfl, rfl⟩
 refine ⟨.inl (by simp [I]), le_ok rfl, ?_⟩
 by_cases hb : bldE p s = 0
 rotate_left
 ·have e : spN p s = (zDea, bldE p s) := if_pos hb
  rw [e]
  simp [I, hb, z49]
  refine finW _ (weak_nlB (o := 32) (k := 41) 36 rfl rfl) ?_
  refine finW _ (weak_nlB (o := 32) (k := 42) 3 rfl rfl) ?_
  refine finW _ (weak_nlB (o := 32) (k := 43) 34 rfl rfl) ?_
  refine finW _ (weak_nlB (o := 32) (k := 44) 34 rfl rfl) ?_
  refine finW _ (weak_nlB (o := 32) (k := 45) 2 rfl rfl) ?_
  refine finW _ (weak_nlB (o := 32) (k := 46) 2 rfl rfl) ?_
  exact fin0
 have e : spN p s = (⟨p, s, [], [], [], [], false, false⟩, 0) := by unfold spN; rw [if_neg (by simpa using hb)]
 rw [e]
 simp [I, hb, lp, pT, pD, pG, q38', z38, z49]
 refine finW _ (weak_nlR (o := 32) (cells := deaC ⟨p, s, [], [], [], [], false, false⟩) (cells' := prmC p ++ (staC s ++ [.fz (.lit (.slice none 0 0)), .fz (.lit (.slice none 0 0)), .fz (.lit (.slice none 0 0)), .fz (.lit (.slice none 0 0)), bC false, bC false])) rfl
  (NlR.app _ (NlR.app (staC s) ⟨.inr ⟨rfl, _, rfl⟩, .inr ⟨rfl, _, rfl⟩, .inr ⟨rfl, _, rfl⟩, .inr ⟨rfl, _, rfl⟩, .inl rfl, .inl rfl, trivial⟩))) ?_
 generalize hq : (Dea.mk p s [] [] [] [] false false) = d'
 refine fin [] (v := RDE (d', 0)) (y := RDE (d', 0)) (by decide) ?_ ?_ rfl ⟨rfl, rfl⟩
 ·subst hq
  simp [resV, resT, evT, RDE, deaC, staC, deaT, bC, iC, lp, pT, pD, pG, f2, asT, coiv, outv, staC, outF, iF, List.tkL]
 ·simp [conR, conT, conTs, RDE, iC]
set_option maxRecDepth 8000 in
theorem RClo_ok (d : Dea) (side : Int) (hd : d.ok) (hs : i64 side) : ECalls Tryz.prog 44 [DV d, I .i64 side] [] fun y H' => H' = [] ∧ y = RDE (spC d side) := by
 obtain ⟨hp, hst, hi0, hi1, ho0, ho1, n0, n1, m0, m1, k0, k1⟩ := id hd
 have lp := prmC_len hp.1
 have pT := pmT lp
 have pD := pmD lp
 have pG := pmG lp
 have ld := deaC_len hp.1
 have td : List.take 49 (deaC d) = deaC d := List.tkL (by omega)
 have td49 : List.drop 49 (deaC d) = [] := List.drop_of_length_le (by omega)
 have f2 := (fzL_prm d.p).all.fz
 refine ecalls k_RClo ?_
 simp [c_RClo, DV, I, ld, td]
 refine call0 (ROpn_ok d side hd hs) (by simp [DV, I]) ?_
 rintro y H' ⟨rfl, rfl⟩
 refine ⟨.inl (by simp [I]), le_ok rfl, ?_⟩
 by_cases hO : spO d side = 0
 rotate_left
 ·have e : spC d side = (zDea, spO d side) := if_pos hO
  rw [e]
  simp [I, hO, z49]
  refine finW _ (weak_nlB (o := 16) (k := 41) 36 rfl rfl) ?_
  refine finW _ (weak_nlB (o := 16) (k := 42) 3 rfl rfl) ?_
  refine finW _ (weak_nlB (o := 16) (k := 43) 34 rfl rfl) ?_
  refine finW _ (weak_nlB (o := 16) (k := 44) 34 rfl rfl) ?_
  refine finW _ (weak_nlB (o := 16) (k := 45) 2 rfl rfl) ?_
  refine finW _ (weak_nlB (o := 16) (k := 46) 2 rfl rfl) ?_
  exact fin0
 rw [hO]
 rcases spO_side hO with ⟨rfl, hr⟩ | ⟨rfl, hr⟩
 ·have e : spC d 0 = (⟨d.p, d.s, d.i0, d.i1, d.o0, d.o1, true, d.r1⟩, 0) := by unfold spC; rw [if_neg (by simp [hO]), if_pos rfl]
  rw [e]
  simp [I, ld, td, deaC, deaT, lp, pT, pD, pG, staC, bC, z49]
  generalize hq : (Dea.mk d.p d.s d.i0 d.i1 d.o0 d.o1 true d.r1) = d'
  refine fin [] (v := RDE (d', 0)) (y := RDE (d', 0)) (by decide) ?_ ?_ rfl ⟨rfl, rfl⟩
  ·subst hq
   simp [resV, resT, evT, RDE, deaC, staC, deaT, bC, iC, lp, pT, pD, pG, f2, asT, coiv, outv, outF, iF, List.tkL]
  ·simp [conR, conT, conTs, RDE, iC]
 ·have e : spC d 1 = (⟨d.p, d.s, d.i0, d.i1, d.o0, d.o1, d.r0, true⟩, 0) := by unfold spC; rw [if_neg (by simp [hO]), if_neg (by decide)]
  rw [e]
  simp [I, ld, td, deaC, deaT, lp, pT, pD, pG, staC, bC, z49]
  generalize hq : (Dea.mk d.p d.s d.i0 d.i1 d.o0 d.o1 d.r0 true) = d'
  refine fin [] (v := RDE (d', 0)) (y := RDE (d', 0)) (by decide) ?_ ?_ rfl ⟨rfl, rfl⟩
  ·subst hq
   simp [resV, resT, evT, RDE, deaC, staC, deaT, bC, iC, lp, pT, pD, pG, f2, asT, coiv, outv, outF, iF, List.tkL]
  ·simp [conR, conT, conTs, RDE, iC]
set_option maxRecDepth 8000 in
theorem RGain_ok (d : Dea) (side : Int) (hd : d.ok) (hs : i64 side) : ECalls Tryz.prog 18 [DV d, I .i64 side] [] fun y H' => H' = [] ∧ y = RGE (spG d side) := by
 obtain ⟨hp, hst, hi0, hi1, ho0, ho1, n0, n1, m0, m1, k0, k1⟩ := id hd
 have lp := prmC_len hp.1
 have pG := pmG lp
 have ld := deaC_len hp.1
 have e43 := idx_of (show (deaC d)[43]? = some (.fz (.sl 34 (coiv d.i0))) from pG _ 5) (by omega)
 have e44 := idx_of (show (deaC d)[44]? = some (.fz (.sl 34 (coiv d.i1))) from pG _ 6) (by omega)
 have e45 := idx_of (show (deaC d)[45]? = some (.fz (.sl 2 (outv d.o0))) from pG _ 7) (by omega)
 have e46 := idx_of (show (deaC d)[46]? = some (.fz (.sl 2 (outv d.o1))) from pG _ 8) (by omega)
 refine ecalls k_RGain ?_
 by_cases c0 : side = 0
 ·subst c0
  have e : spG d 0 = gaiL d.i0 d.o0 := by simp [spG]
  rw [e]
  simp [c_RGain, DV, I, ld, e43, e44, e45, e46]
  refine eloop (α := Nat × Int) (fun a => a.1 ≤ d.i0.length ∧ coiG 0 d.i0 = coiG a.2 (d.i0.drop a.1) ∧ 0 ≤ a.2 ∧ a.2 ≤ 1125899906842624) (fun a => d.i0.length - a.1)
   (fun a => [xA, I .i64 0, Ptr 0, xA, xA, xA, I .i64 a.2, I .i64 a.1, xA, xA, xA, xA, xA, xA, xA, xA, xA, xA, xA, xA, xA, xA, xA, xA, xA, xA, xA, xA, xA, xA, xA, xA, xA, xA, xA, xA, xA, xA, xA, xA, xA, xA, xA, xA, xA, xA, xA, xA, xA, xA, xA, xA, xA, xA, xA, xA, xA, xA, xA, xA, xA, xA, xA, .any]) (fun _ => [some (.box 61 (deaC d))]) (0, 0) [0]
   ⟨Nat.zero_le _, by simp, by simp, by simp⟩ (by simp [I, Ptr]) (by simp) (by simp) (by simp) (by simp) ?_
  rintro ⟨k, n⟩ ⟨hk, hg, hn0, hn1⟩
  dsimp only at hk hg hn0 hn1
  simp [I, Ptr, ld, e43, e44, e45, e46]
  refine alt (fun hlt => ?_) (fun hlt => ?_)
  ·have hln : k < d.i0.length := by omega
   obtain ⟨c, hcc⟩ : ∃ c, d.i0[k]? = some c := ⟨d.i0[k], by simp [hln]⟩
   have hge : (coiv d.i0)[k]'(by simp [hln]) = coiF c := gE (coiv_get hcc)
   have hco := hi0 c (List.mgE hcc)
   have hfl := coiF_len hco.1
   have hcl := coiC_len hco.1
   have cam := idx_of (coi_am hco.1) (by omega)
   have cam' : (coiF c)[33]'(by omega) = iF c.am := by
    have e := coi_am hco.1
    rw [← coiF_fz, List.getElem?_map, List.getElem?_eq_getElem (by omega)] at e
    simpa [iC, iF] using e
   have w4 : IntKind.i64.wrap ((k : Int) + 1) = ((k + 1 : Nat) : Int) := wrap_i64 (by omega) (by omega)
   have hgs : coiG n (c :: d.i0.drop (k + 1)) = if c.am < 0 ∨ 1125899906842624 - n < c.am then none else coiG (n + c.am) (d.i0.drop (k + 1)) := rfl
   rw [drop_of hcc, hgs] at hg
   by_cases ca : c.am < 0
   ·rw [if_pos (.inl ca)] at hg
    have e2 : gaiL d.i0 d.o0 = (0, 5) := gaiL_none hg
    simp [ld, e43, e44, hln, hge, hfl, coiF_fz, hcl, cam, cam', iC, iF, ca, e2]
    exact fin0
   have ca' : 0 ≤ c.am := by omega
   by_cases cm : 1125899906842624 < c.am
   ·rw [if_pos (.inr (by omega))] at hg
    have e2 : gaiL d.i0 d.o0 = (0, 5) := gaiL_none hg
    simp [ld, e43, e44, hln, hge, hfl, coiF_fz, hcl, cam, cam', iC, iF, ca, ca', cm, e2]
    exact fin0
   have w6 : IntKind.i64.wrap (n + c.am) = n + c.am := wrap_i64 (by omega) (by omega)
   by_cases cb : 1125899906842624 < n + c.am
   ·rw [if_pos (.inr (by omega))] at hg
    have e2 : gaiL d.i0 d.o0 = (0, 5) := gaiL_none hg
    simp [ld, e43, e44, hln, hge, hfl, coiF_fz, hcl, cam, cam', iC, iF, ca, ca', cm, cb, w6, e2]
    exact fin0
   rw [if_neg (by omega)] at hg
   simp [ld, e43, e44, hln, hge, hfl, coiF_fz, hcl, cam, cam', iC, iF, ca, ca', cm, cb, w4, w6, -Int.natCast_add]
   exact round (k + 1, n + c.am) [0] ⟨by dsimp only; omega, hg, by dsimp only; omega, by dsimp only; omega⟩ (by dsimp only; omega) (by simp [I, Ptr, -Int.natCast_add]) (by simp) (by simp) (by simp) (by simp)
  have hil : k = d.i0.length := by omega
  subst hil
  rw [List.drop_length, show coiG n [] = some n from rfl] at hg
  simp [ld, e43, e44, e45, e46]
  have hT := ecalls_nlR (cs := txC (Txn.mk 0 [] d.o0)) (cs' := [iC 0, .fz (.lit (.slice none 0 0)), .fz (.sl 2 (outv d.o0))]) ⟨.inl rfl, .inr ⟨rfl, _, rfl⟩, .inl rfl, trivial⟩ (RTxTotal_ok (Txn.mk 0 [] d.o0) (outs_ok ho0 m0))
  refine call0 hT (by simp [iC]) ?_
  rintro y H' ⟨rfl, rfl⟩
  refine ⟨.inl (by simp [iC]), le_ok rfl, ?_⟩
  obtain ⟨t0, t1⟩ := totO_b (l := d.o0) (n := 0) (by omega) (by omega)
  by_cases ct : (totO 0 d.o0).2 = 0
  ·have e2 : gaiL d.i0 d.o0 = (n - (totO 0 d.o0).1, 0) := by rw [gaiL_some hg, if_neg (by simpa using ct)]
   have w7 : IntKind.i64.wrap (n - (totO 0 d.o0).1) = n - (totO 0 d.o0).1 := wrap_i64 (by omega) (by omega)
   simp [iC, ct, e2, w7]
   exact fin0
  ·have e2 : gaiL d.i0 d.o0 = (0, (totO 0 d.o0).2) := by rw [gaiL_some hg, if_pos ct]
   simp [iC, ct, e2]
   exact fin0
 by_cases c1 : side = 1
 ·subst c1
  have e : spG d 1 = gaiL d.i1 d.o1 := by simp [spG]
  rw [e]
  simp [c_RGain, DV, I, ld, e43, e44, e45, e46]
  refine eloop (α := Nat × Int) (fun a => a.1 ≤ d.i1.length ∧ coiG 0 d.i1 = coiG a.2 (d.i1.drop a.1) ∧ 0 ≤ a.2 ∧ a.2 ≤ 1125899906842624) (fun a => d.i1.length - a.1)
   (fun a => [xA, I .i64 1, Ptr 0, xA, xA, xA, I .i64 a.2, I .i64 a.1, xA, xA, xA, xA, xA, xA, xA, xA, xA, xA, xA, xA, xA, xA, xA, xA, xA, xA, xA, xA, xA, xA, xA, xA, xA, xA, xA, xA, xA, xA, xA, xA, xA, xA, xA, xA, xA, xA, xA, xA, xA, xA, xA, xA, xA, xA, xA, xA, xA, xA, xA, xA, xA, xA, xA, .any]) (fun _ => [some (.box 61 (deaC d))]) (0, 0) [0]
   ⟨Nat.zero_le _, by simp, by simp, by simp⟩ (by simp [I, Ptr]) (by simp) (by simp) (by simp) (by simp) ?_
  rintro ⟨k, n⟩ ⟨hk, hg, hn0, hn1⟩
  dsimp only at hk hg hn0 hn1
  simp [I, Ptr, ld, e43, e44, e45, e46]
  refine alt (fun hlt => ?_) (fun hlt => ?_)
  ·have hln : k < d.i1.length := by omega
   obtain ⟨c, hcc⟩ : ∃ c, d.i1[k]? = some c := ⟨d.i1[k], by simp [hln]⟩
   have hge : (coiv d.i1)[k]'(by simp [hln]) = coiF c := gE (coiv_get hcc)
   have hco := hi1 c (List.mgE hcc)
   have hfl := coiF_len hco.1
   have hcl := coiC_len hco.1
   have cam := idx_of (coi_am hco.1) (by omega)
   have cam' : (coiF c)[33]'(by omega) = iF c.am := by
    have e := coi_am hco.1
    rw [← coiF_fz, List.getElem?_map, List.getElem?_eq_getElem (by omega)] at e
    simpa [iC, iF] using e
   have w4 : IntKind.i64.wrap ((k : Int) + 1) = ((k + 1 : Nat) : Int) := wrap_i64 (by omega) (by omega)
   have hgs : coiG n (c :: d.i1.drop (k + 1)) = if c.am < 0 ∨ 1125899906842624 - n < c.am then none else coiG (n + c.am) (d.i1.drop (k + 1)) := rfl
   rw [drop_of hcc, hgs] at hg
   by_cases ca : c.am < 0
   ·rw [if_pos (.inl ca)] at hg
    have e2 : gaiL d.i1 d.o1 = (0, 5) := gaiL_none hg
    simp [ld, e43, e44, hln, hge, hfl, coiF_fz, hcl, cam, cam', iC, iF, ca, e2]
    exact fin0
   have ca' : 0 ≤ c.am := by omega
   by_cases cm : 1125899906842624 < c.am
   ·rw [if_pos (.inr (by omega))] at hg
    have e2 : gaiL d.i1 d.o1 = (0, 5) := gaiL_none hg
    simp [ld, e43, e44, hln, hge, hfl, coiF_fz, hcl, cam, cam', iC, iF, ca, ca', cm, e2]
    exact fin0
   have w6 : IntKind.i64.wrap (n + c.am) = n + c.am := wrap_i64 (by omega) (by omega)
   by_cases cb : 1125899906842624 < n + c.am
   ·rw [if_pos (.inr (by omega))] at hg
    have e2 : gaiL d.i1 d.o1 = (0, 5) := gaiL_none hg
    simp [ld, e43, e44, hln, hge, hfl, coiF_fz, hcl, cam, cam', iC, iF, ca, ca', cm, cb, w6, e2]
    exact fin0
   rw [if_neg (by omega)] at hg
   simp [ld, e43, e44, hln, hge, hfl, coiF_fz, hcl, cam, cam', iC, iF, ca, ca', cm, cb, w4, w6, -Int.natCast_add]
   exact round (k + 1, n + c.am) [0] ⟨by dsimp only; omega, hg, by dsimp only; omega, by dsimp only; omega⟩ (by dsimp only; omega) (by simp [I, Ptr, -Int.natCast_add]) (by simp) (by simp) (by simp) (by simp)
  have hil : k = d.i1.length := by omega
  subst hil
  rw [List.drop_length, show coiG n [] = some n from rfl] at hg
  simp [ld, e43, e44, e45, e46]
  have hT := ecalls_nlR (cs := txC (Txn.mk 0 [] d.o1)) (cs' := [iC 0, .fz (.lit (.slice none 0 0)), .fz (.sl 2 (outv d.o1))]) ⟨.inl rfl, .inr ⟨rfl, _, rfl⟩, .inl rfl, trivial⟩ (RTxTotal_ok (Txn.mk 0 [] d.o1) (outs_ok ho1 m1))
  refine call0 hT (by simp [iC]) ?_
  rintro y H' ⟨rfl, rfl⟩
  refine ⟨.inl (by simp [iC]), le_ok rfl, ?_⟩
  obtain ⟨t0, t1⟩ := totO_b (l := d.o1) (n := 0) (by omega) (by omega)
  by_cases ct : (totO 0 d.o1).2 = 0
  ·have e2 : gaiL d.i1 d.o1 = (n - (totO 0 d.o1).1, 0) := by rw [gaiL_some hg, if_neg (by simpa using ct)]
   have w7 : IntKind.i64.wrap (n - (totO 0 d.o1).1) = n - (totO 0 d.o1).1 := wrap_i64 (by omega) (by omega)
   simp [iC, ct, e2, w7]
   exact fin0
  ·have e2 : gaiL d.i1 d.o1 = (0, (totO 0 d.o1).2) := by rw [gaiL_some hg, if_pos ct]
   simp [iC, ct, e2]
   exact fin0
 have e : spG d side = (0, 33) := by simp [spG, c0, c1]
 rw [e]
 simp [c_RGain, DV, I, ld, c0, c1]
 exact fin0
def ylym : UL | _ => [xW 0 3 61 0, xW 1 5 68 2, xQ 2 6 (.alloc 61 (zU8 ++ [xZ, xZ, xZ, xZ, xZ, xZ, xZ, xZ, xZ, xS, xS, xS, xS, xS, xS, (.bool false), (.bool false)])), xC 3 7 0]
def ylyn : UL | _ => [xD 0 13 49 3, xM 1 14 1, xO 2 15 (.call 92 [.t 13, .t 14]), xM 3 8 15]
def ylyp : UL | _ => [xQ 0 18 (.build (zU8 ++ [xZ, xZ, xZ, xZ, xZ, xZ, xZ, xZ, xZ, xS, xS, xS, xS, xS, xS, (.bool false), (.bool false)]) []), xM 1 19 8, xN 2 (.fz (.sto 49 (.t 6) (.t 18))), xM 3 7 19]
def ylyr : UL | _ => [xM 6 9 25]
def ylys : UL | _ => xF 0 20 0 5 :: xD 1 21 33 20 :: xF 2 22 0 3 :: xF 3 23 0 22 :: xD 4 24 33 23 :: xQ 5 25 (.eqw false [(32, .u8), (1, .i64)] (.t 21) (.t 24)) :: hid ylyr
def ylyw : UL | _ => [xb 6 36 .lss 30 35]
def ylyx : UL | _ => xM 0 30 11 :: xM 1 31 10 :: xF 2 32 43 3 :: xQ 3 33 (.iad 2 1 (.t 32) (.t 31)) :: xL 4 34 33 :: xE 5 35 34 :: hid ylyw
def ylyy : UL | _ => [xG 12 51 40 false (.eqw false [(32, .u8), (1, .i64)] (.t 48) (.t 50)), xP 13 52 40 51, xM 14 9 52]
def ylyz : UL | _ => yM 6 45 40 false 11 :: xG 7 46 40 false (.isl 34 (.t 44) (.t 45)) :: yF 8 47 40 false 0 46 :: xG 9 48 40 false (.lda 33 (.t 47)) :: yF 10 49 40 false 0 5 :: xG 11 50 40 false (.lda 33 (.t 49)) :: hid ylyy
def ylz0 : UL | _ => xM 0 39 9 :: xM 1 40 39 :: yM 2 41 40 false 10 :: yF 3 42 40 false 43 3 :: xG 4 43 40 false (.iad 2 1 (.t 42) (.t 41)) :: yL 5 44 40 false 43 :: hid ylyz
def ybz3 : UB | _ => .block 1 (.seq (reg0 [xC 0 11 0] 1) (.block 2 (.loop (.seq (.seq (reg0 (hid ylyx) 7) (.cond (.t 36) .skip (.exit 2))) (.seq (.block 3 (reg0 (hid ylz0) 15)) (reg0 [xM 0 37 11, xc 1 38 .add 37 1, xM 2 11 38] 3))))))
def ybz5 : UB | _ => .seq (.seq (reg0 [xM 0 26 10, xc 1 27 .lss 26 2] 2) (.cond (.t 27) .skip (.exit 0))) (.seq (hid ybz3) (reg0 [xM 0 28 10, xc 1 29 .add 28 1, xM 2 10 29] 3))
def ylz6 : UL | _ => [xM 6 53 59]
def ylz7 : UL | _ => xM 0 54 1 :: xF 1 55 43 3 :: xQ 2 56 (.iad 2 1 (.t 55) (.t 54)) :: xL 3 57 56 :: xE 4 58 57 :: xc 5 59 .gtr 58 29 :: hid ylz6
def ylz8 : UL | _ => [xQ 0 60 (.build (zU8 ++ [xZ, xZ, xZ, xZ, xZ, xZ, xZ, xZ, xZ, xS, xS, xS, xS, xS, xS, (.bool false), (.bool false)]) []), xN 1 (.fz (.sto 49 (.t 6) (.t 60))), xC 2 7 30]
def ylza : UL | _ => [xQ 0 63 (.build (zU8 ++ [xZ, xZ, xZ, xZ, xZ, xZ, xZ, xZ, xZ, xS, xS, xS, xS, xS, xS, (.bool false), (.bool false)]) []), xN 1 (.fz (.sto 49 (.t 6) (.t 63))), xC 2 7 9]
def ylzc : UL | _ => [xQ 0 68 (.build (zU8 ++ [xZ, xZ, xZ, xZ, xZ, xZ, xZ, xZ, xZ, xS, xS, xS, xS, xS, xS, (.bool false), (.bool false)]) []), xN 1 (.fz (.sto 49 (.t 6) (.t 68))), xC 2 7 27]
def ylzd : UL | _ => [xF 0 70 33 5, xL 1 71 70, xc 2 72 .gtr 71 1125899906842624, xM 3 69 72]
def ylze : UL | _ => [xQ 0 73 (.build (zU8 ++ [xZ, xZ, xZ, xZ, xZ, xZ, xZ, xZ, xZ, xS, xS, xS, xS, xS, xS, (.bool false), (.bool false)]) []), xN 1 (.fz (.sto 49 (.t 6) (.t 73))), xC 2 7 5]
def ybzh : UB | _ => .seq (reg0 [xM 0 62 9, xM 1 61 62] 2) (.cond (.t 61) (.seq (reg0 (hid ylza) 3) .ret) (.seq (reg0 [xF 0 65 33 5, xL 1 66 65, xc 2 67 .lss 66 10, xM 3 64 67] 4) (.cond (.t 64) (.seq (reg0 (hid ylzc) 3) .ret) (.seq (reg0 (hid ylzd) 4) (.cond (.t 69) (.seq (reg0 (hid ylze) 3) .ret) .skip)))))
def ybzi : UB | _ => .seq (reg0 (hid ylz7) 7) (.cond (.t 53) (.seq (reg0 (hid ylz8) 3) .ret) (hid ybzh))
def ylzj : UL | _ => [xM 0 74 1, xF 1 75 43 3, xQ 2 76 (.iad 2 1 (.t 75) (.t 74)), xL 3 77 76, xM 4 12 77]
def ylzk : UL | _ => [xN 12 (.fz (.sto 1 (.t 89) (.t 87)))]
def ylzl : UL | _ => xQ 6 84 (.sl3 34 (.t 79) (.t 81) (.t 83)) :: xD 7 85 34 5 :: xQ 8 86 (.bsl 34 (zU8 ++ [xZ, xZ]) 1 [(0, .t 85)]) :: xF 10 88 43 3 :: ⟨9, (some 87), none, (.app 68 34 48 (.t 84) (.t 86)), [0, 10]⟩ :: xQ 11 89 (.iad 2 1 (.t 88) (.t 78)) :: hid ylzk
def ylzm : UL | _ => xM 0 78 1 :: xM 1 79 12 :: xM 2 80 12 :: xE 3 81 80 :: xM 4 82 12 :: xE 5 83 82 :: hid ylzl
def ybzp : UB | _ => .seq (.seq (reg0 [xC 0 10 0] 1) (.block 0 (.loop (hid ybz5)))) (.seq (.block 4 (hid ybzi)) (.seq (reg0 (hid ylzj) 5) (.seq (reg1 (hid ylzm) 13) (.seq (reg0 [xD 0 90 49 3, xN 1 (.fz (.sto 49 (.t 6) (.t 90))), xC 2 7 0] 3) .ret))))
def ybzq : UB | _ => .seq (reg0 (hid ylyn) 4) (.seq (.seq (reg0 [xM 0 16 8, xc 1 17 .neq 16 0] 2) (.cond (.t 17) (.seq (reg0 (hid ylyp) 4) .ret) .skip)) (.seq (reg0 (hid ylys) 7) (hid ybzp)))
def ybzr : UB | _ => .seq (reg0 (hid ylym) 4) (hid ybzq)
attribute [simp] ylym ylyn ylyp ylyr ylys ylyw ylyx ylyy ylyz ylz0 ybz3 ybz5 ylz6 ylz7 ylz8 ylza ylzc ylzd ylze ybzh ybzi ylzj ylzk ylzl ylzm ybzp ybzq ybzr
def c_RBri : EB × List QOp × Nat := ((hid ybzr), [(.lda 49 (.t 6)), (.mov (.t 7))], 91)
theorem k_RBri : cfun Tryz.prog 45 = some c_RBri := by kernel_rfl
theorem hasL_snoc {tx : List UInt8} {n : Int} {l : List Coi} {k : Nat} {c : Coi} (h : l[k]? = some c) : hasL tx n (l.take (k + 1)) = (hasL tx n (l.take k) || decide (ptL c.tx c.n = ptL tx n)) := by
 rw [List.take_add_one, h]
 simp [hasL, List.any_append]
def acB (d : Dea) (c : Coi) : Nat → Bool
 | 0 => decide (ptL c.tx c.n = ptL d.p.tx d.p.n)
 | 1 => decide (ptL c.tx c.n = ptL d.p.tx d.p.n) || hasL c.tx c.n d.i0
 | _ => spH d c
theorem acB_2 (d : Dea) (c : Coi) : (decide (ptL c.tx c.n = ptL d.p.tx d.p.n) || hasL c.tx c.n d.i0 || hasL c.tx c.n d.i1) = spH d c := by
 unfold spH
 rw [Bool.or_assoc]
 congr 1
 exact decide_eq_decide.2 eq_comm
set_option maxRecDepth 8000 in
theorem RBri_ok (d : Dea) (side : Int) (c : Coi) (hd : d.ok) (hs : i64 side) (hc' : c.ok) : ECalls Tryz.prog 45 [DV d, I .i64 side, .v (.agg (coiC c))] [] fun y H' => H' = [] ∧ y = RDE (spB d side c) := by
 obtain ⟨hp, hst, hi0, hi1, ho0, ho1, n0, n1, m0, m1, k0, k1⟩ := id hd
 have lp := prmC_len hp.1
 have pT := pmT lp
 have pD := pmD lp
 have pG := pmG lp
 have ld := deaC_len hp.1
 have td : List.take 49 (deaC d) = deaC d := List.tkL (by omega)
 have td49 : List.drop 49 (deaC d) = [] := List.drop_of_length_le (by omega)
 have f2 := (fzL_prm d.p).all.fz
 have lc := coiC_len hc'.1
 have lf := coiF_len hc'.1
 have c33 := coi_33 hc'.1
 have cam := idx_of (coi_am hc'.1) (by omega)
 have ctk := coi_take hc'.1
 have q33 : List.take 33 (deaC d) = hc d.p.tx ++ [iC d.p.n] := p33 hp.1 _
 have kk1 := litK_ptL hp.1 hp.2.1
 have kk2 := litK_ptL hc'.1 hc'.2.1
 have e43 := idx_of (show (deaC d)[43]? = some (.fz (.sl 34 (coiv d.i0))) from pG _ 5) (by omega)
 have e44 := idx_of (show (deaC d)[44]? = some (.fz (.sl 34 (coiv d.i1))) from pG _ 6) (by omega)
 refine ecalls k_RBri ?_
 simp [c_RBri, DV, I, ld, td]
 refine call0 (ROpn_ok d side hd hs) (by simp [DV, I]) ?_
 rintro y H' ⟨rfl, rfl⟩
 refine ⟨.inl (by simp [I]), le_ok rfl, ?_⟩
 by_cases hO : spO d side = 0
 rotate_left
 ·have e : spB d side c = (zDea, spO d side) := if_pos hO
  rw [e]
  simp [I, hO, z49]
  refine finW _ (weak_nlB (o := 32) (k := 41) 36 rfl rfl) ?_
  refine finW _ (weak_nlB (o := 32) (k := 42) 3 rfl rfl) ?_
  refine finW _ (weak_nlB (o := 32) (k := 43) 34 rfl rfl) ?_
  refine finW _ (weak_nlB (o := 32) (k := 44) 34 rfl rfl) ?_
  refine finW _ (weak_nlB (o := 32) (k := 45) 2 rfl rfl) ?_
  refine finW _ (weak_nlB (o := 32) (k := 46) 2 rfl rfl) ?_
  exact fin0
 rw [hO]
 have hsd := spO_side hO
 simp [I, ld, td, lc, c33, q33, kk1, kk2]
 refine eloop (α := Nat) (fun i => i ≤ 2) (fun i => 2 - i)
  (fun i => [xA, I .i64 side, xA, Ptr 0, xA, Ptr 1, Ptr 2, xA, xA, .lit (.bool (acB d c i)), I .i64 i, xA, xA, xA, xA, xA, xA, xA, xA, xA, xA, xA, xA, xA, xA, xA, xA, xA, xA, xA, xA, xA, xA, xA, xA, xA, xA, xA, xA, xA, xA, xA, xA, xA, xA, xA, xA, xA, xA, xA, xA, xA, xA, xA, xA, xA, xA, xA, xA, xA, xA, xA, xA, xA, xA, xA, xA, xA, xA, xA, xA, xA, xA, xA, xA, xA, xA, xA, xA, xA, xA, xA, xA, xA, xA, xA, xA, xA, xA, xA, .any]) (fun _ => [some (.box 61 (deaC d)), some (.box 68 (coiC c)), some (.box 61 zD0)]) 0 [0, 16, 32]
  (by omega) (by simp [I, Ptr, acB]) (by simp [zD0, iC]) (by simp) (by simp) (by simp) ?_
 intro i hi
 match i, hi with
 | 0, _ =>
  simp [Ptr, I, ld, e43, e44]
  refine eloop (α := Nat) (fun k => k ≤ d.i0.length) (fun k => d.i0.length - k)
   (fun k => [xA, I .i64 side, xA, Ptr 0, xA, Ptr 1, Ptr 2, xA, xA, .lit (.bool (or (acB d c 0) (hasL c.tx c.n (d.i0.take k)))), I .i64 0, I .i64 k, xA, xA, xA, xA, xA, xA, xA, xA, xA, xA, xA, xA, xA, xA, xA, xA, xA, xA, xA, xA, xA, xA, xA, xA, xA, xA, xA, xA, xA, xA, xA, xA, xA, xA, xA, xA, xA, xA, xA, xA, xA, xA, xA, xA, xA, xA, xA, xA, xA, xA, xA, xA, xA, xA, xA, xA, xA, xA, xA, xA, xA, xA, xA, xA, xA, xA, xA, xA, xA, xA, xA, xA, xA, xA, xA, xA, xA, xA, .any]) (fun _ => [some (.box 61 (deaC d)), some (.box 68 (coiC c)), some (.box 61 zD0)]) 0 [0, 1, 2]
   (by omega) (by simp [I, Ptr, hasL]) (by simp [zD0, iC]) (by simp) (by simp) (by simp) ?_
  intro k hk
  simp [Ptr, I, ld, e43, e44]
  refine alt (fun hlt => ?_) (fun hlt => ?_)
  ·have hln : k < d.i0.length := by omega
   obtain ⟨q, hcc⟩ : ∃ q, d.i0[k]? = some q := ⟨d.i0[k], by simp [hln]⟩
   have hge : (coiv d.i0)[k]'(by simp [hln]) = coiF q := gE (coiv_get hcc)
   have hqo := hi0 q (List.mgE hcc)
   have lq := coiC_len hqo.1
   have lqf := coiF_len hqo.1
   have q33' := coi_33 hqo.1
   have kk3 := litK_ptL hqo.1 hqo.2.1
   have w4 : IntKind.i64.wrap ((k : Int) + 1) = ((k + 1 : Nat) : Int) := wrap_i64 (by omega) (by omega)
   have hsn := hasL_snoc (tx := c.tx) (n := c.n) hcc
   cases hacc : (acB d c 0 || hasL c.tx c.n (d.i0.take k))
   ·have hac : (acB d c 0 || hasL c.tx c.n (d.i0.take (k + 1))) = decide (ptL q.tx q.n = ptL c.tx c.n) := by rw [hsn, ← Bool.or_assoc, hacc, Bool.false_or]
    simp [ld, e43, e44, hln, hge, lqf, lq, coiF_fz, q33', lc, c33, kk2, kk3, w4, -Int.natCast_add]
    exact round (k + 1) [0, 1, 2] (by omega) (by omega) (by simp [I, Ptr, hac, -Int.natCast_add]) (by simp [zD0, iC]) (by simp) (by simp) (by simp)
   ·have hac : (acB d c 0 || hasL c.tx c.n (d.i0.take (k + 1))) = true := by rw [hsn, ← Bool.or_assoc, hacc, Bool.true_or]
    simp [ld, e43, e44, hln, hge, lqf, lq, coiF_fz, q33', lc, c33, kk2, kk3, w4, -Int.natCast_add]
    exact round (k + 1) [0, 1, 2] (by omega) (by omega) (by simp [I, Ptr, hac, -Int.natCast_add]) (by simp [zD0, iC]) (by simp) (by simp) (by simp)
  have hkl : k = d.i0.length := by omega
  subst hkl
  have hac : (acB d c 0 || hasL c.tx c.n d.i0) = acB d c 1 := rfl
  simp [hac]
  exact round 1 [0, 1, 2] (by omega) (by omega) (by simp [I, Ptr, show IntKind.i64.wrap 1 = 1 from rfl]) (by simp [zD0, iC]) (by simp) (by simp) (by simp)
 | 1, _ =>
  simp [Ptr, I, ld, e43, e44]
  refine eloop (α := Nat) (fun k => k ≤ d.i1.length) (fun k => d.i1.length - k)
   (fun k => [xA, I .i64 side, xA, Ptr 0, xA, Ptr 1, Ptr 2, xA, xA, .lit (.bool (or (acB d c 1) (hasL c.tx c.n (d.i1.take k)))), I .i64 1, I .i64 k, xA, xA, xA, xA, xA, xA, xA, xA, xA, xA, xA, xA, xA, xA, xA, xA, xA, xA, xA, xA, xA, xA, xA, xA, xA, xA, xA, xA, xA, xA, xA, xA, xA, xA, xA, xA, xA, xA, xA, xA, xA, xA, xA, xA, xA, xA, xA, xA, xA, xA, xA, xA, xA, xA, xA, xA, xA, xA, xA, xA, xA, xA, xA, xA, xA, xA, xA, xA, xA, xA, xA, xA, xA, xA, xA, xA, xA, xA, .any]) (fun _ => [some (.box 61 (deaC d)), some (.box 68 (coiC c)), some (.box 61 zD0)]) 0 [0, 1, 2]
   (by omega) (by simp [I, Ptr, hasL]) (by simp [zD0, iC]) (by simp) (by simp) (by simp) ?_
  intro k hk
  simp [Ptr, I, ld, e43, e44]
  refine alt (fun hlt => ?_) (fun hlt => ?_)
  ·have hln : k < d.i1.length := by omega
   obtain ⟨q, hcc⟩ : ∃ q, d.i1[k]? = some q := ⟨d.i1[k], by simp [hln]⟩
   have hge : (coiv d.i1)[k]'(by simp [hln]) = coiF q := gE (coiv_get hcc)
   have hqo := hi1 q (List.mgE hcc)
   have lq := coiC_len hqo.1
   have lqf := coiF_len hqo.1
   have q33' := coi_33 hqo.1
   have kk3 := litK_ptL hqo.1 hqo.2.1
   have w4 : IntKind.i64.wrap ((k : Int) + 1) = ((k + 1 : Nat) : Int) := wrap_i64 (by omega) (by omega)
   have hsn := hasL_snoc (tx := c.tx) (n := c.n) hcc
   cases hacc : (acB d c 1 || hasL c.tx c.n (d.i1.take k))
   ·have hac : (acB d c 1 || hasL c.tx c.n (d.i1.take (k + 1))) = decide (ptL q.tx q.n = ptL c.tx c.n) := by rw [hsn, ← Bool.or_assoc, hacc, Bool.false_or]
    simp [ld, e43, e44, hln, hge, lqf, lq, coiF_fz, q33', lc, c33, kk2, kk3, w4, -Int.natCast_add]
    exact round (k + 1) [0, 1, 2] (by omega) (by omega) (by simp [I, Ptr, hac, -Int.natCast_add]) (by simp [zD0, iC]) (by simp) (by simp) (by simp)
   ·have hac : (acB d c 1 || hasL c.tx c.n (d.i1.take (k + 1))) = true := by rw [hsn, ← Bool.or_assoc, hacc, Bool.true_or]
    simp [ld, e43, e44, hln, hge, lqf, lq, coiF_fz, q33', lc, c33, kk2, kk3, w4, -Int.natCast_add]
    exact round (k + 1) [0, 1, 2] (by omega) (by omega) (by simp [I, Ptr, hac, -Int.natCast_add]) (by simp [zD0, iC]) (by simp) (by simp) (by simp)
  have hkl : k = d.i1.length := by omega
  subst hkl
  have hac : (acB d c 1 || hasL c.tx c.n d.i1) = acB d c 2 := acB_2 d c
  simp [hac]
  exact round 2 [0, 1, 2] (by omega) (by omega) (by simp [I, Ptr, show IntKind.i64.wrap 2 = 2 from rfl]) (by simp [zD0, iC]) (by simp) (by simp) (by simp)
 | 2, _ =>
  rcases hsd with ⟨rfl, hr⟩ | ⟨rfl, hr⟩
  ·have e : spB d 0 c = (if bE d c d.i0.length ≠ 0 then (zDea, bE d c d.i0.length) else (⟨d.p, d.s, d.i0 ++ [c], d.i1, d.o0, d.o1, d.r0, d.r1⟩, 0)) := by unfold spB; rw [if_neg (by simp [hO])]; rw [if_pos rfl]
   by_cases hl : 30 ≤ d.i0.length
   ·have eb : bE d c d.i0.length = 30 := if_pos hl
    have hl2 : 29 < d.i0.length := by omega
    have hl3 : (29 : Int) < (d.i0.length : Int) := by omega
    rw [e, eb]
    simp [Ptr, I, ld, e43, e44, hl2, hl3, z49, zD0, iC]
    refine finW _ (weak_nlB (o := 2) (k := 41) 36 rfl rfl) ?_
    refine finW _ (weak_nlB (o := 2) (k := 42) 3 rfl rfl) ?_
    refine finW _ (weak_nlB (o := 2) (k := 43) 34 rfl rfl) ?_
    refine finW _ (weak_nlB (o := 2) (k := 44) 34 rfl rfl) ?_
    refine finW _ (weak_nlB (o := 2) (k := 45) 2 rfl rfl) ?_
    refine finW _ (weak_nlB (o := 2) (k := 46) 2 rfl rfl) ?_
    exact fin0
   have hl2 : ¬ 29 < d.i0.length := by omega
   have hl3 : ¬ (29 : Int) < (d.i0.length : Int) := by omega
   have acB2 : acB d c 2 = spH d c := rfl
   cases hh : spH d c
   rotate_left
   ·have eb : bE d c d.i0.length = 9 := by unfold bE; rw [if_neg hl, if_pos hh]
    rw [e, eb]
    simp [Ptr, I, ld, e43, e44, hl2, hl3, z49, zD0, iC, acB2, hh]
    refine finW _ (weak_nlB (o := 2) (k := 41) 36 rfl rfl) ?_
    refine finW _ (weak_nlB (o := 2) (k := 42) 3 rfl rfl) ?_
    refine finW _ (weak_nlB (o := 2) (k := 43) 34 rfl rfl) ?_
    refine finW _ (weak_nlB (o := 2) (k := 44) 34 rfl rfl) ?_
    refine finW _ (weak_nlB (o := 2) (k := 45) 2 rfl rfl) ?_
    refine finW _ (weak_nlB (o := 2) (k := 46) 2 rfl rfl) ?_
    exact fin0
   by_cases ha : c.am < 10
   ·have eb : bE d c d.i0.length = 27 := by unfold bE; rw [if_neg hl, if_neg (by simp [hh]), if_pos ha]
    rw [e, eb]
    simp [Ptr, I, ld, e43, e44, hl2, hl3, z49, zD0, iC, acB2, hh, lc, cam, ha]
    refine finW _ (weak_nlB (o := 2) (k := 41) 36 rfl rfl) ?_
    refine finW _ (weak_nlB (o := 2) (k := 42) 3 rfl rfl) ?_
    refine finW _ (weak_nlB (o := 2) (k := 43) 34 rfl rfl) ?_
    refine finW _ (weak_nlB (o := 2) (k := 44) 34 rfl rfl) ?_
    refine finW _ (weak_nlB (o := 2) (k := 45) 2 rfl rfl) ?_
    refine finW _ (weak_nlB (o := 2) (k := 46) 2 rfl rfl) ?_
    exact fin0
   by_cases hm : 1125899906842624 < c.am
   ·have eb : bE d c d.i0.length = 5 := by unfold bE; rw [if_neg hl, if_neg (by simp [hh]), if_neg ha, if_pos hm]
    rw [e, eb]
    simp [Ptr, I, ld, e43, e44, hl2, hl3, z49, zD0, iC, acB2, hh, lc, cam, ha, hm]
    refine finW _ (weak_nlB (o := 2) (k := 41) 36 rfl rfl) ?_
    refine finW _ (weak_nlB (o := 2) (k := 42) 3 rfl rfl) ?_
    refine finW _ (weak_nlB (o := 2) (k := 43) 34 rfl rfl) ?_
    refine finW _ (weak_nlB (o := 2) (k := 44) 34 rfl rfl) ?_
    refine finW _ (weak_nlB (o := 2) (k := 45) 2 rfl rfl) ?_
    refine finW _ (weak_nlB (o := 2) (k := 46) 2 rfl rfl) ?_
    exact fin0
   have eb : bE d c d.i0.length = 0 := by unfold bE; rw [if_neg hl, if_neg (by simp [hh]), if_neg ha, if_neg hm]
   rw [e, eb, if_neg (by simp)]
   simp [Ptr, I, ld, td, e43, e44, hl2, hl3, z49, zD0, iC, acB2, hh, lc, lf, ctk, cam, ha, hm]
   refine ⟨⟨by omega, by omega⟩, ?_⟩
   refine finW _ (weak_frz (o := 531) (ty := 68) (es := 34) (xs := coiv d.i0 ++ [coiF c]) rfl) ?_
   generalize hq : (Dea.mk d.p d.s (d.i0 ++ [c]) d.i1 d.o0 d.o1 d.r0 d.r1) = d'
   refine fin [] (v := RDE (d', 0)) (y := RDE (d', 0)) (by decide) ?_ ?_ rfl ⟨rfl, rfl⟩
   ·subst hq
    simp [resV, resT, evT, RDE, deaC, staC, deaT, bC, iC, lp, pT, pD, pG, f2, asT, coiv, outv, outF, iF, List.tkL]
   ·simp [conR, conT, conTs, RDE, iC]
  ·have e : spB d 1 c = (if bE d c d.i1.length ≠ 0 then (zDea, bE d c d.i1.length) else (⟨d.p, d.s, d.i0, d.i1 ++ [c], d.o0, d.o1, d.r0, d.r1⟩, 0)) := by unfold spB; rw [if_neg (by simp [hO])]; rw [if_neg (by decide)]
   by_cases hl : 30 ≤ d.i1.length
   ·have eb : bE d c d.i1.length = 30 := if_pos hl
    have hl2 : 29 < d.i1.length := by omega
    have hl3 : (29 : Int) < (d.i1.length : Int) := by omega
    rw [e, eb]
    simp [Ptr, I, ld, e43, e44, hl2, hl3, z49, zD0, iC]
    refine finW _ (weak_nlB (o := 2) (k := 41) 36 rfl rfl) ?_
    refine finW _ (weak_nlB (o := 2) (k := 42) 3 rfl rfl) ?_
    refine finW _ (weak_nlB (o := 2) (k := 43) 34 rfl rfl) ?_
    refine finW _ (weak_nlB (o := 2) (k := 44) 34 rfl rfl) ?_
    refine finW _ (weak_nlB (o := 2) (k := 45) 2 rfl rfl) ?_
    refine finW _ (weak_nlB (o := 2) (k := 46) 2 rfl rfl) ?_
    exact fin0
   have hl2 : ¬ 29 < d.i1.length := by omega
   have hl3 : ¬ (29 : Int) < (d.i1.length : Int) := by omega
   have acB2 : acB d c 2 = spH d c := rfl
   cases hh : spH d c
   rotate_left
   ·have eb : bE d c d.i1.length = 9 := by unfold bE; rw [if_neg hl, if_pos hh]
    rw [e, eb]
    simp [Ptr, I, ld, e43, e44, hl2, hl3, z49, zD0, iC, acB2, hh]
    refine finW _ (weak_nlB (o := 2) (k := 41) 36 rfl rfl) ?_
    refine finW _ (weak_nlB (o := 2) (k := 42) 3 rfl rfl) ?_
    refine finW _ (weak_nlB (o := 2) (k := 43) 34 rfl rfl) ?_
    refine finW _ (weak_nlB (o := 2) (k := 44) 34 rfl rfl) ?_
    refine finW _ (weak_nlB (o := 2) (k := 45) 2 rfl rfl) ?_
    refine finW _ (weak_nlB (o := 2) (k := 46) 2 rfl rfl) ?_
    exact fin0
   by_cases ha : c.am < 10
   ·have eb : bE d c d.i1.length = 27 := by unfold bE; rw [if_neg hl, if_neg (by simp [hh]), if_pos ha]
    rw [e, eb]
    simp [Ptr, I, ld, e43, e44, hl2, hl3, z49, zD0, iC, acB2, hh, lc, cam, ha]
    refine finW _ (weak_nlB (o := 2) (k := 41) 36 rfl rfl) ?_
    refine finW _ (weak_nlB (o := 2) (k := 42) 3 rfl rfl) ?_
    refine finW _ (weak_nlB (o := 2) (k := 43) 34 rfl rfl) ?_
    refine finW _ (weak_nlB (o := 2) (k := 44) 34 rfl rfl) ?_
    refine finW _ (weak_nlB (o := 2) (k := 45) 2 rfl rfl) ?_
    refine finW _ (weak_nlB (o := 2) (k := 46) 2 rfl rfl) ?_
    exact fin0
   by_cases hm : 1125899906842624 < c.am
   ·have eb : bE d c d.i1.length = 5 := by unfold bE; rw [if_neg hl, if_neg (by simp [hh]), if_neg ha, if_pos hm]
    rw [e, eb]
    simp [Ptr, I, ld, e43, e44, hl2, hl3, z49, zD0, iC, acB2, hh, lc, cam, ha, hm]
    refine finW _ (weak_nlB (o := 2) (k := 41) 36 rfl rfl) ?_
    refine finW _ (weak_nlB (o := 2) (k := 42) 3 rfl rfl) ?_
    refine finW _ (weak_nlB (o := 2) (k := 43) 34 rfl rfl) ?_
    refine finW _ (weak_nlB (o := 2) (k := 44) 34 rfl rfl) ?_
    refine finW _ (weak_nlB (o := 2) (k := 45) 2 rfl rfl) ?_
    refine finW _ (weak_nlB (o := 2) (k := 46) 2 rfl rfl) ?_
    exact fin0
   have eb : bE d c d.i1.length = 0 := by unfold bE; rw [if_neg hl, if_neg (by simp [hh]), if_neg ha, if_neg hm]
   rw [e, eb, if_neg (by simp)]
   simp [Ptr, I, ld, td, e43, e44, hl2, hl3, z49, zD0, iC, acB2, hh, lc, lf, ctk, cam, ha, hm]
   refine ⟨⟨by omega, by omega⟩, ?_⟩
   refine finW _ (weak_frz (o := 531) (ty := 68) (es := 34) (xs := coiv d.i1 ++ [coiF c]) rfl) ?_
   generalize hq : (Dea.mk d.p d.s d.i0 (d.i1 ++ [c]) d.o0 d.o1 d.r0 d.r1) = d'
   refine fin [] (v := RDE (d', 0)) (y := RDE (d', 0)) (by decide) ?_ ?_ rfl ⟨rfl, rfl⟩
   ·subst hq
    simp [resV, resT, evT, RDE, deaC, staC, deaT, bC, iC, lp, pT, pD, pG, f2, asT, coiv, outv, outF, iF, List.tkL]
   ·simp [conR, conT, conTs, RDE, iC]
def ylzs : UL | _ => [xW 0 3 61 0, xW 1 5 135 2, xQ 2 6 (.alloc 61 (zU8 ++ [xZ, xZ, xZ, xZ, xZ, xZ, xZ, xZ, xZ, xS, xS, xS, xS, xS, xS, (.bool false), (.bool false)])), xC 3 7 0]
def ylzt : UL | _ => [xD 0 10 49 3, xM 1 11 1, xO 2 12 (.call 92 [.t 10, .t 11]), xM 3 8 12]
def ylzv : UL | _ => [xQ 0 15 (.build (zU8 ++ [xZ, xZ, xZ, xZ, xZ, xZ, xZ, xZ, xZ, xS, xS, xS, xS, xS, xS, (.bool false), (.bool false)]) []), xM 1 16 8, xN 2 (.fz (.sto 49 (.t 6) (.t 15))), xM 3 7 16]
def ylzx : UL | _ => [xM 0 17 1, xF 1 18 45 3, xQ 2 19 (.iad 2 1 (.t 18) (.t 17)), xL 3 20 19, xE 4 21 20, xc 5 22 .gtr 21 29]
def ylzy : UL | _ => [xQ 0 23 (.build (zU8 ++ [xZ, xZ, xZ, xZ, xZ, xZ, xZ, xZ, xZ, xS, xS, xS, xS, xS, xS, (.bool false), (.bool false)]) []), xN 1 (.fz (.sto 49 (.t 6) (.t 23))), xC 2 7 30]
def yl100 : UL | _ => [xM 6 8 29]
def yl101 : UL | _ => xQ 0 24 (.build (zU8 ++ [xZ, xZ, xS]) []) :: xO 1 25 (.fz (.q (.bsl 35 (zU8 ++ [xZ, xZ, xS]) 1 [(0, .t 24)]))) :: xD 2 26 2 5 :: xO 3 27 (.fz (.q (.bsl 2 [xZ, xS] 1 [(0, .t 26)]))) :: xQ 4 28 (.build [xZ, xS, xS] [(1, 1, .t 25), (2, 1, .t 27)]) :: xO 5 29 (.call 93 [.t 28]) :: hid yl100
def yl103 : UL | _ => [xQ 0 32 (.build (zU8 ++ [xZ, xZ, xZ, xZ, xZ, xZ, xZ, xZ, xZ, xS, xS, xS, xS, xS, xS, (.bool false), (.bool false)]) []), xM 1 33 8, xN 2 (.fz (.sto 49 (.t 6) (.t 32))), xM 3 7 33]
def yl105 : UL | _ => [xM 0 34 1, xF 1 35 45 3, xQ 2 36 (.iad 2 1 (.t 35) (.t 34)), xL 3 37 36, xM 4 9 37]
def yl106 : UL | _ => [xN 12 (.fz (.sto 1 (.t 49) (.t 47)))]
def yl107 : UL | _ => xQ 6 44 (.sl3 2 (.t 39) (.t 41) (.t 43)) :: xD 7 45 2 5 :: xF 10 48 45 3 :: ⟨8, (some 46), none, (.fz (.q (.bsl 2 [xZ, xS] 1 [(0, .t 45)]))), [0, 1, 2, 3, 4, 5, 6, 10]⟩ :: ⟨9, (some 47), none, (.app 135 2 32 (.t 44) (.t 46)), [0, 10]⟩ :: xQ 11 49 (.iad 2 1 (.t 48) (.t 38)) :: hid yl106
def yl108 : UL | _ => xM 0 38 1 :: xM 1 39 9 :: xM 2 40 9 :: xE 3 41 40 :: xM 4 42 9 :: xE 5 43 42 :: hid yl107
def yb10a : UB | _ => .seq (reg0 (hid yl105) 5) (.seq (reg1 (hid yl108) 13) (.seq (reg0 [xD 0 50 49 3, xN 1 (.fz (.sto 49 (.t 6) (.t 50))), xC 2 7 0] 3) .ret))
def yb10b : UB | _ => .seq (.seq (reg0 (hid ylzx) 6) (.cond (.t 22) (.seq (reg0 (hid ylzy) 3) .ret) .skip)) (.seq (reg0 (hid yl101) 7) (.seq (.seq (reg0 [xM 0 30 8, xc 1 31 .neq 30 0] 2) (.cond (.t 31) (.seq (reg0 (hid yl103) 4) .ret) .skip)) (hid yb10a)))
def yb10c : UB | _ => .seq (reg0 (hid ylzs) 4) (.seq (reg0 (hid ylzt) 4) (.seq (.seq (reg0 [xM 0 13 8, xc 1 14 .neq 13 0] 2) (.cond (.t 14) (.seq (reg0 (hid ylzv) 4) .ret) .skip)) (hid yb10b)))
attribute [simp] ylzs ylzt ylzv ylzx ylzy yl100 yl101 yl103 yl105 yl106 yl107 yl108 yb10a yb10b yb10c
def c_RTak : EB × List QOp × Nat := ((hid yb10c), [(.lda 49 (.t 6)), (.mov (.t 7))], 51)
theorem k_RTak : cfun Tryz.prog 43 = some c_RTak := by kernel_rfl
set_option maxRecDepth 8000 in
theorem RTak_ok (d : Dea) (side : Int) (o : Outp) (hd : d.ok) (hs : i64 side) (ho : o.ok) : ECalls Tryz.prog 43 [DV d, I .i64 side, .v (.agg (outC o))] [] fun y H' => H' = [] ∧ y = RDE (spT d side o) := by
 obtain ⟨hp, hst, hi0, hi1, ho0, ho1, n0, n1, m0, m1, k0, k1⟩ := id hd
 have lp := prmC_len hp.1
 have pT := pmT lp
 have pD := pmD lp
 have pG := pmG lp
 have ld := deaC_len hp.1
 have td : List.take 49 (deaC d) = deaC d := List.tkL (by omega)
 have td49 : List.drop 49 (deaC d) = [] := List.drop_of_length_le (by omega)
 have f2 := (fzL_prm d.p).all.fz
 have hC : ECalls Tryz.prog 93 [.v (.agg [iC 0, .fz (.sl 35 [hf hz ++ [.lit (.int .i64 0), .lit (.int .i64 0), .lit (.slice none 0 0)]]), .fz (.sl 2 [outF o])])] [] fun y H' => H' = [] ∧ y = I .i64 (chkT (tkT o)) := by
  have := ecalls_nlG (RTxCheck_ok (tkT o) (tkT_ok ho))
  rwa [tk_ins] at this
 have e45 := idx_of (show (deaC d)[45]? = some (.fz (.sl 2 (outv d.o0))) from pG _ 7) (by omega)
 have e46 := idx_of (show (deaC d)[46]? = some (.fz (.sl 2 (outv d.o1))) from pG _ 8) (by omega)
 refine ecalls k_RTak ?_
 simp [c_RTak, DV, I, ld, td, outC, iC]
 refine call0 (ROpn_ok d side hd hs) (by simp [DV, I]) ?_
 rintro y H' ⟨rfl, rfl⟩
 refine ⟨.inl (by simp [I]), le_ok rfl, ?_⟩
 by_cases hO : spO d side = 0
 rotate_left
 ·have e : spT d side o = (zDea, spO d side) := if_pos hO
  rw [e]
  simp [I, hO, z49]
  refine finW _ (weak_nlB (o := 32) (k := 41) 36 rfl rfl) ?_
  refine finW _ (weak_nlB (o := 32) (k := 42) 3 rfl rfl) ?_
  refine finW _ (weak_nlB (o := 32) (k := 43) 34 rfl rfl) ?_
  refine finW _ (weak_nlB (o := 32) (k := 44) 34 rfl rfl) ?_
  refine finW _ (weak_nlB (o := 32) (k := 45) 2 rfl rfl) ?_
  refine finW _ (weak_nlB (o := 32) (k := 46) 2 rfl rfl) ?_
  exact fin0
 rw [hO]
 rcases spO_side hO with ⟨rfl, hr⟩ | ⟨rfl, hr⟩
 ·have e : spT d 0 o = (if tE o d.o0.length ≠ 0 then (zDea, tE o d.o0.length) else (⟨d.p, d.s, d.i0, d.i1, d.o0 ++ [o], d.o1, d.r0, d.r1⟩, 0)) := by unfold spT; rw [if_neg (by simp [hO])]; rw [if_pos rfl]
  by_cases hl : 30 ≤ d.o0.length
  ·have eb : tE o d.o0.length = 30 := if_pos hl
   have hl2 : 29 < d.o0.length := by omega
   have hl3 : (29 : Int) < (d.o0.length : Int) := by omega
   rw [e, eb]
   simp [I, ld, e45, e46, hl2, hl3, z49]
   refine finW _ (weak_nlB (o := 32) (k := 41) 36 rfl rfl) ?_
   refine finW _ (weak_nlB (o := 32) (k := 42) 3 rfl rfl) ?_
   refine finW _ (weak_nlB (o := 32) (k := 43) 34 rfl rfl) ?_
   refine finW _ (weak_nlB (o := 32) (k := 44) 34 rfl rfl) ?_
   refine finW _ (weak_nlB (o := 32) (k := 45) 2 rfl rfl) ?_
   refine finW _ (weak_nlB (o := 32) (k := 46) 2 rfl rfl) ?_
   exact fin0
  have hl2 : ¬ 29 < d.o0.length := by omega
  have hl3 : ¬ (29 : Int) < (d.o0.length : Int) := by omega
  have eb : tE o d.o0.length = chkT (tkT o) := if_neg hl
  simp [I, ld, td, e45, e46, hl2, hl3, zI, hzf_len]
  refine call0 hC (by simp [outF, iF, iC]) ?_
  rintro y H' ⟨rfl, rfl⟩
  refine ⟨.inl (by simp [iC]), le_ok rfl, ?_⟩
  by_cases hk : chkT (tkT o) = 0
  rotate_left
  ·rw [e, eb, if_pos hk]
   simp [I, hk, z49]
   refine finW _ (weak_nlB (o := 32) (k := 41) 36 rfl rfl) ?_
   refine finW _ (weak_nlB (o := 32) (k := 42) 3 rfl rfl) ?_
   refine finW _ (weak_nlB (o := 32) (k := 43) 34 rfl rfl) ?_
   refine finW _ (weak_nlB (o := 32) (k := 44) 34 rfl rfl) ?_
   refine finW _ (weak_nlB (o := 32) (k := 45) 2 rfl rfl) ?_
   refine finW _ (weak_nlB (o := 32) (k := 46) 2 rfl rfl) ?_
   exact fin0
  rw [e, eb, hk, if_neg (by simp)]
  simp [I, ld, td, e45, e46, z49]
  refine ⟨⟨by omega, by omega⟩, ?_⟩
  refine finW _ (weak_frz (o := 624) (ty := 135) (es := 2) (xs := outv d.o0 ++ [[.lit (.int .i64 o.am), .sl 35 (brav o.cs)]]) rfl) ?_
  generalize hq : (Dea.mk d.p d.s d.i0 d.i1 (d.o0 ++ [o]) d.o1 d.r0 d.r1) = d'
  refine fin [] (v := RDE (d', 0)) (y := RDE (d', 0)) (by decide) ?_ ?_ rfl ⟨rfl, rfl⟩
  ·subst hq
   simp [resV, resT, evT, RDE, deaC, staC, deaT, bC, iC, lp, pT, pD, pG, f2, asT, coiv, outv, outF, iF, List.tkL]
  ·simp [conR, conT, conTs, RDE, iC]
 ·have e : spT d 1 o = (if tE o d.o1.length ≠ 0 then (zDea, tE o d.o1.length) else (⟨d.p, d.s, d.i0, d.i1, d.o0, d.o1 ++ [o], d.r0, d.r1⟩, 0)) := by unfold spT; rw [if_neg (by simp [hO])]; rw [if_neg (by decide)]
  by_cases hl : 30 ≤ d.o1.length
  ·have eb : tE o d.o1.length = 30 := if_pos hl
   have hl2 : 29 < d.o1.length := by omega
   have hl3 : (29 : Int) < (d.o1.length : Int) := by omega
   rw [e, eb]
   simp [I, ld, e45, e46, hl2, hl3, z49]
   refine finW _ (weak_nlB (o := 32) (k := 41) 36 rfl rfl) ?_
   refine finW _ (weak_nlB (o := 32) (k := 42) 3 rfl rfl) ?_
   refine finW _ (weak_nlB (o := 32) (k := 43) 34 rfl rfl) ?_
   refine finW _ (weak_nlB (o := 32) (k := 44) 34 rfl rfl) ?_
   refine finW _ (weak_nlB (o := 32) (k := 45) 2 rfl rfl) ?_
   refine finW _ (weak_nlB (o := 32) (k := 46) 2 rfl rfl) ?_
   exact fin0
  have hl2 : ¬ 29 < d.o1.length := by omega
  have hl3 : ¬ (29 : Int) < (d.o1.length : Int) := by omega
  have eb : tE o d.o1.length = chkT (tkT o) := if_neg hl
  simp [I, ld, td, e45, e46, hl2, hl3, zI, hzf_len]
  refine call0 hC (by simp [outF, iF, iC]) ?_
  rintro y H' ⟨rfl, rfl⟩
  refine ⟨.inl (by simp [iC]), le_ok rfl, ?_⟩
  by_cases hk : chkT (tkT o) = 0
  rotate_left
  ·rw [e, eb, if_pos hk]
   simp [I, hk, z49]
   refine finW _ (weak_nlB (o := 32) (k := 41) 36 rfl rfl) ?_
   refine finW _ (weak_nlB (o := 32) (k := 42) 3 rfl rfl) ?_
   refine finW _ (weak_nlB (o := 32) (k := 43) 34 rfl rfl) ?_
   refine finW _ (weak_nlB (o := 32) (k := 44) 34 rfl rfl) ?_
   refine finW _ (weak_nlB (o := 32) (k := 45) 2 rfl rfl) ?_
   refine finW _ (weak_nlB (o := 32) (k := 46) 2 rfl rfl) ?_
   exact fin0
  rw [e, eb, hk, if_neg (by simp)]
  simp [I, ld, td, e45, e46, z49]
  refine ⟨⟨by omega, by omega⟩, ?_⟩
  refine finW _ (weak_frz (o := 624) (ty := 135) (es := 2) (xs := outv d.o1 ++ [[.lit (.int .i64 o.am), .sl 35 (brav o.cs)]]) rfl) ?_
  generalize hq : (Dea.mk d.p d.s d.i0 d.i1 d.o0 (d.o1 ++ [o]) d.r0 d.r1) = d'
  refine fin [] (v := RDE (d', 0)) (y := RDE (d', 0)) (by decide) ?_ ?_ rfl ⟨rfl, rfl⟩
  ·subst hq
   simp [resV, resT, evT, RDE, deaC, staC, deaT, bC, iC, lp, pT, pD, pG, f2, asT, coiv, outv, outF, iF, List.tkL]
  ·simp [conR, conT, conTs, RDE, iC]
theorem num_e (e : Nat) : ECalls Tryz.prog 12 [.lit (errV e)] [] fun y H' => H' = [] ∧ y = I .i64 e := by
 have h := num_ok (e : Int)
 have e1 : EN (e : Int) = .lit (errV e) := by
  unfold EN errV
  by_cases h : e = 0
  ·subst h; rfl
  ·rw [if_neg (by omega), if_neg h]
 rw [e1] at h
 exact h
def yl10d : UL | _ => [xW 0 3 49 0, xW 1 4 61 1, xW 2 5 73 2, xQ 3 6 (.alloc 49 (zU8 ++ [xZ, xZ, xZ, xZ, xZ, xZ, xZ, xZ, xZ, xS, xS, xS, xS, xS, xS, (.bool false), (.bool false)])), xQ 4 7 (.alloc 61 (zU8 ++ [xZ, xZ, xZ, xZ, xZ, xZ, xZ, xZ, xZ, xS, xS, xS, xS, xS, xS, (.bool false), (.bool false)])), xQ 5 8 (.mov (.k (.bool false)))]
def yl10e : UL | _ => [xD 0 13 49 3, xQ 1 9 (.alloc 49 (zU8 ++ [xZ, xZ, xZ, xZ, xZ, xZ, xZ, xZ, xZ, xS, xS, xS, xS, xS, xS, (.bool false), (.bool false)])), xN 2 (.fz (.sto 49 (.t 9) (.t 13))), xQ 3 10 (.mov (.k .nilIface))]
def yl10f : UL | _ => [xD 0 14 49 4, xQ 1 11 (.alloc 61 (zU8 ++ [xZ, xZ, xZ, xZ, xZ, xZ, xZ, xZ, xZ, xS, xS, xS, xS, xS, xS, (.bool false), (.bool false)])), xN 2 (.fz (.sto 49 (.t 11) (.t 14))), xC 3 12 0]
def yl10g : UL | _ => [xF 0 15 0 5, xL 1 16 15, xQ 2 17 (.cnv .u64 (.t 16)), xQ 3 18 (.bin .rem (.t 17) (.k (.int .u64 6))), xQ 4 19 (.cnv .i64 (.t 18))]
def yl10k : UL | _ => [xF 0 46 36 5, xF 1 47 2 46, xL 2 48 47, xE 3 49 48, xc 4 50 .eql 49 0]
def yl10l : UL | _ => [xD 0 51 49 3, xD 1 52 49 4, ⟨2, none, none, (.fz (.sto 49 (.t 6) (.t 51))), [1]⟩, xN 3 (.fz (.sto 49 (.t 7) (.t 52))), xQ 4 8 (.mov (.k (.bool true)))]
def yl10n : UL | _ => [xX 12 65 1 53, ⟨13, none, none, (.fz (.sto 49 (.t 9) (.t 64))), [12]⟩, xM 14 10 65]
def yl10o : UL | _ => xQ 6 60 (.fgc 2 (.t 59)) :: xQ 7 61 (.isl 2 (.t 60) (xK 0)) :: xD 8 62 2 61 :: xO 9 63 (.call 42 [.t 54, .t 56, .t 62]) :: xM 10 53 63 :: xX 11 64 0 53 :: hid yl10n
def yl10p : UL | _ => xD 0 54 49 3 :: xF 1 55 1 5 :: xL 2 56 55 :: xF 3 57 36 5 :: xD 4 58 3 57 :: ⟨5, (some 59), none, (.call 41 [.t 58]), [0, 1, 2]⟩ :: hid yl10o
def yl10q : UL | _ => [⟨12, none, none, (.fz (.sto 49 (.t 11) (.t 76))), [11]⟩, xM 13 12 77]
def yl10r : UL | _ => xQ 6 73 (.isl 2 (.t 72) (xK 0)) :: xD 7 74 2 73 :: xO 8 75 (.call 43 [.t 67, .t 69, .t 74]) :: xM 9 66 75 :: xX 10 76 0 66 :: xX 11 77 1 66 :: hid yl10q
def yl10s : UL | _ => xD 0 67 49 4 :: xF 1 68 1 5 :: xL 2 69 68 :: xF 3 70 36 5 :: xF 4 71 2 70 :: xL 5 72 71 :: hid yl10r
def yl10v : UL | _ => [xX 6 86 1 80, xN 7 (.fz (.sto 49 (.t 9) (.t 85))), xM 8 10 86]
def yl10w : UL | _ => xD 0 81 49 3 :: xF 1 82 1 5 :: xL 2 83 82 :: xO 3 84 (.call 33 [.t 81, .t 83]) :: xM 4 80 84 :: xX 5 85 0 80 :: hid yl10v
def yl10x : UL | _ => [xX 6 93 1 87, xN 7 (.fz (.sto 49 (.t 11) (.t 92))), xM 8 12 93]
def yl10y : UL | _ => xD 0 88 49 4 :: xF 1 89 1 5 :: xL 2 90 89 :: xO 3 91 (.call 44 [.t 88, .t 90]) :: xM 4 87 91 :: xX 5 92 0 87 :: hid yl10x
def yl10z : UL | _ => [xX 12 32 0 20, xX 13 33 1 20, xN 14 (.fz (.sto 49 (.t 9) (.t 32))), xM 15 10 33]
def yl110 : UL | _ => xF 6 27 2 5 :: xF 7 28 33 27 :: xL 8 29 28 :: xQ 9 30 (.build (zU8 ++ [xZ, xZ]) [(0, 33, .t 26), (33, 1, .t 29)]) :: xO 10 31 (.call 32 [.t 21, .t 23, .t 30]) :: xM 11 20 31 :: hid yl10z
def yl111 : UL | _ => xD 0 21 49 3 :: xF 1 22 1 5 :: xL 2 23 22 :: xF 3 24 2 5 :: xF 4 25 0 24 :: xD 5 26 33 25 :: hid yl110
def yl112 : UL | _ => [xM 6 34 40, xX 7 41 0 34, xX 8 42 1 34, xN 9 (.fz (.sto 49 (.t 11) (.t 41))), xM 10 12 42]
def yl113 : UL | _ => xD 0 35 49 4 :: xF 1 36 1 5 :: xL 2 37 36 :: xF 3 38 2 5 :: xD 4 39 34 38 :: xO 5 40 (.call 45 [.t 35, .t 37, .t 39]) :: hid yl112
def yb114 : UB | _ => .cond (.t 78) (.seq (reg0 (hid yl10w) 9) (reg0 (hid yl10y) 9)) (.seq (reg0 (hid yl111) 16) (reg0 (hid yl113) 11))
def yb115 : UB | _ => .cond (.t 43) (.seq (.seq (reg0 (hid yl10k) 5) (.cond (.t 50) (.seq (reg1 (hid yl10l) 5) .ret) .skip)) (.seq (reg1 (hid yl10p) 15) (reg1 (hid yl10s) 14))) (.seq (reg0 [xc 0 79 .eql 19 5, xM 1 78 79] 2) (hid yb114))
def yb116 : UB | _ => .seq (reg0 (hid yl10g) 5) (.block 0 (.seq (.seq (reg0 [xc 0 44 .eql 19 3, xM 1 43 44] 2) (.cond (.t 43) .skip (reg0 [xc 0 45 .eql 19 4, xM 1 43 45] 2))) (hid yb115)))
def yl117 : UL | _ => [xG 6 100 98 false (.lda 49 (.t 11)), ⟨7, (some 101), (some (98, false)), (.call 13 [.t 99, .t 100]), []⟩, xG 8 102 98 false (.un .not (.t 101)), xP 9 103 98 102]
def yl118 : UL | _ => xM 0 94 10 :: xO 1 95 (.call 12 [.t 94]) :: xM 2 96 12 :: xb 3 97 .neq 95 96 :: xM 4 98 97 :: xG 5 99 98 false (.lda 49 (.t 9)) :: hid yl117
def yl119 : UL | _ => [xD 0 104 49 3, xD 1 105 49 4, ⟨2, none, none, (.fz (.sto 49 (.t 6) (.t 104))), [1]⟩, xN 3 (.fz (.sto 49 (.t 7) (.t 105))), xQ 4 8 (.mov (.k (.bool false)))]
def yl11c : UL | _ => [xD 0 108 49 3, xD 1 109 49 4, ⟨2, none, none, (.fz (.sto 49 (.t 6) (.t 108))), [1]⟩, xN 3 (.fz (.sto 49 (.t 7) (.t 109))), xQ 4 8 (.mov (.k (.bool true)))]
def yl11e : UL | _ => [xD 0 110 49 9, xD 1 111 49 11, ⟨2, none, none, (.fz (.sto 49 (.t 6) (.t 110))), [1]⟩, xN 3 (.fz (.sto 49 (.t 7) (.t 111))), xQ 4 8 (.mov (.k (.bool true)))]
def yb11f : UB | _ => .seq (.seq (reg0 (hid yl118) 10) (.cond (.t 103) (.seq (reg1 (hid yl119) 5) .ret) .skip)) (.seq (.seq (reg0 [xM 0 106 12, xc 1 107 .neq 106 0] 2) (.cond (.t 107) (.seq (reg1 (hid yl11c) 5) .ret) .skip)) (.seq (reg1 (hid yl11e) 5) .ret))
def yb11g : UB | _ => .seq (reg0 (hid yl10e) 4) (.seq (reg0 (hid yl10f) 4) (.seq (hid yb116) (hid yb11f)))
def yb11h : UB | _ => .seq (reg0 (hid yl10d) 6) (hid yb11g)
attribute [simp] yl10d yl10e yl10f yl10g yl10k yl10l yl10n yl10o yl10p yl10q yl10r yl10s yl10v yl10w yl10x yl10y yl10z yl110 yl111 yl112 yl113 yb114 yb115 yb116 yl117 yl118 yl119 yl11c yl11e yb11f yb11g yb11h
def c_Sstep : EB × List QOp × Nat := ((hid yb11h), [(.lda 49 (.t 6)), (.lda 49 (.t 7)), (.mov (.t 8))], 112)
theorem k_Sstep : cfun Tryz.prog 16 = some c_Sstep := by kernel_rfl
structure Acn where
 kind : Int
 side : Int
 coin : Coi
 t : Txn
def actF (a : Acn) : List FV := [iF a.kind, iF a.side] ++ (coiF a.coin ++ txF a.t)
def actC (a : Acn) : List EC := iC a.kind :: iC a.side :: (coiC a.coin ++ txC a.t)
theorem actF_fz (a : Acn) : (actF a).map EC.fz = actC a := by simp [actF, actC, coiF_fz, txF_fz, iF, iC]
def Acn.ok (a : Acn) : Prop := i64 a.kind ∧ i64 a.side ∧ a.coin.ok ∧ a.t.bk
theorem gd_z : zDea.gd := by
 refine ⟨⟨?_, ?_, by simp [zDea], by simp [zDea], by simp [zDea], by simp [zDea], by simp [zDea], by simp [zDea], by simp [zDea], by simp [zDea], by simp [zDea], by simp [zDea]⟩, ?_, by simp [zDea], by simp [zDea], by simp [zDea], by simp [zDea], by simp [zDea], by simp [zDea]⟩
 ·simp [zDea, zPrm, Prm.ok, i64, hz]
 ·simp [zDea, zSta, Sta.ok, i64]
 ·simp [zDea, zSta, Sta.small]
theorem gd_B {d : Dea} {side : Int} {c : Coi} (hd : d.gd) (hc' : c.ok) : (spB d side c).1.gd := by
 obtain ⟨⟨hp, hs, hi0, hi1, ho0, ho1, n0, n1, m0, m1, k0, k1⟩, hsm, so0, so1, u0, u1, v0, v1⟩ := id hd
 have hb : ∀ n, bE d c n = 0 → n < 30 := by
  intro n h
  unfold bE at h
  split at h
  ·simp at h
  ·omega
 unfold spB
 split
 ·exact gd_z
 split
 ·split
  ·exact gd_z
  ·rename_i h
   have := hb _ (Classical.not_not.1 h)
   refine ⟨⟨hp, hs, ?_, hi1, ho0, ho1, by simp; omega, n1, m0, m1, k0, k1⟩, hsm, so0, so1, by simp; omega, u1, v0, v1⟩
   intro x hx
   rcases List.mem_append.1 hx with hx | hx
   ·exact hi0 x hx
   ·obtain rfl := List.mem_singleton.1 hx; exact hc'
 ·split
  ·exact gd_z
  ·rename_i h
   have := hb _ (Classical.not_not.1 h)
   refine ⟨⟨hp, hs, hi0, ?_, ho0, ho1, n0, by simp; omega, m0, m1, k0, k1⟩, hsm, so0, so1, u0, by simp; omega, v0, v1⟩
   intro x hx
   rcases List.mem_append.1 hx with hx | hx
   ·exact hi1 x hx
   ·obtain rfl := List.mem_singleton.1 hx; exact hc'
theorem gd_T {d : Dea} {side : Int} {o : Outp} (hd : d.gd) (ho : o.ok) : (spT d side o).1.gd := by
 obtain ⟨⟨hp, hs, hi0, hi1, ho0, ho1, n0, n1, m0, m1, k0, k1⟩, hsm, so0, so1, u0, u1, v0, v1⟩ := id hd
 have hb : ∀ n, tE o n = 0 → n < 30 ∧ o.sm ∧ o.cs.length ≤ 2000000 := by
  intro n h
  unfold tE at h
  split at h
  ·simp at h
  ·have h2 := (sm_of_chk (tkT_ok ho) h).2.1 o (by simp [tkT])
   exact ⟨by omega, h2, by have := h2.2; omega⟩
 unfold spT
 split
 ·exact gd_z
 split
 ·split
  ·exact gd_z
  ·rename_i h
   obtain ⟨q1, q2, q3⟩ := hb _ (Classical.not_not.1 h)
   refine ⟨⟨hp, hs, hi0, hi1, ?_, ho1, n0, n1, by simp; omega, m1, ?_, k1⟩, hsm, ?_, so1, u0, u1, by simp; omega, v1⟩
   ·intro x hx
    rcases List.mem_append.1 hx with hx | hx
    ·exact ho0 x hx
    ·obtain rfl := List.mem_singleton.1 hx; exact ho
   ·intro x hx
    rcases List.mem_append.1 hx with hx | hx
    ·exact k0 x hx
    ·obtain rfl := List.mem_singleton.1 hx; exact q3
   ·intro x hx
    rcases List.mem_append.1 hx with hx | hx
    ·exact so0 x hx
    ·obtain rfl := List.mem_singleton.1 hx; exact q2
 ·split
  ·exact gd_z
  ·rename_i h
   obtain ⟨q1, q2, q3⟩ := hb _ (Classical.not_not.1 h)
   refine ⟨⟨hp, hs, hi0, hi1, ho0, ?_, n0, n1, m0, by simp; omega, k0, ?_⟩, hsm, so0, ?_, u0, u1, v0, by simp; omega⟩
   ·intro x hx
    rcases List.mem_append.1 hx with hx | hx
    ·exact ho1 x hx
    ·obtain rfl := List.mem_singleton.1 hx; exact ho
   ·intro x hx
    rcases List.mem_append.1 hx with hx | hx
    ·exact k1 x hx
    ·obtain rfl := List.mem_singleton.1 hx; exact q3
   ·intro x hx
    rcases List.mem_append.1 hx with hx | hx
    ·exact so1 x hx
    ·obtain rfl := List.mem_singleton.1 hx; exact q2
theorem gd_C {d : Dea} {side : Int} (hd : d.gd) : (spC d side).1.gd := by
 unfold spC
 split
 ·exact gd_z
 split
 ·exact hd
 ·exact hd
def STV (d : Dea) : EV := .tup [.agg (deaC d), .agg (deaC d), .c (.fz (.lit (.bool true)))]
set_option maxRecDepth 8000 in
theorem Sstep_ok (d : Dea) (a : Acn) (hg : d.gd) (ha : a.ok) : ECalls Tryz.prog 16 [DV d, DV d, .v (.agg (actC a))] [] fun y H' => H' = [] ∧ ∃ d', d'.gd ∧ y = STV d' := by
 obtain ⟨a1, a2, a3, a4⟩ := ha
 have ld := deaC_len hg.1.1.1
 have td : List.take 49 (deaC d) = deaC d := List.tkL (by omega)
 have td49 : List.drop 49 (deaC d) = [] := List.drop_of_length_le (by omega)
 have lc := coiC_len a3.1
 have la : (actC a).length = 39 := by simp [actC, lc, txC]
 have ta : List.take 39 (actC a) = actC a := List.tkL (by omega)
 have A0 := idx_of (show (actC a)[0]? = some (iC a.kind) from rfl) (by omega)
 have A1 := idx_of (show (actC a)[1]? = some (iC a.side) from rfl) (by omega)
 have A34 : List.take 34 (List.drop 2 (actC a)) = coiC a.coin := by
  show List.take 34 (coiC a.coin ++ txC a.t) = _
  rw [← lc, List.take_left]
 have A33 : List.take 33 (List.drop 2 (actC a)) = hc a.coin.tx ++ [iC a.coin.n] := by
  show List.take 33 (coiC a.coin ++ txC a.t) = _
  rw [List.take_append_of_le_length (by omega), coi_33 a3.1]
 have A35 : (actC a)[35]'(by omega) = iC a.coin.am := by
  refine idx_of ?_ (by omega)
  show (coiC a.coin ++ txC a.t)[33]? = _
  rw [List.getElem?_append_left (by omega), coi_am a3.1]
 have A36 : List.drop 36 (actC a) = txC a.t := by
  show List.drop 34 (coiC a.coin ++ txC a.t) = _
  rw [← lc, List.drop_left]
 have A38 : (actC a)[38]'(by omega) = .fz (.sl 2 (outv a.t.outs)) := by
  refine idx_of ?_ (by omega)
  show (coiC a.coin ++ txC a.t)[36]? = _
  rw [List.getElem?_append_right (by omega), lc]; rfl
 refine ecalls k_Sstep ?_
 obtain ⟨K, hK, hK0, hK6⟩ : ∃ K : Int, (IntKind.u64.wrap a.kind).tmod 6 = K ∧ 0 ≤ K ∧ K < 6 := by
  have h0 : 0 ≤ IntKind.u64.wrap a.kind := by rw [IntKind.wrap_u64]; omega
  exact ⟨_, rfl, Int.tmod_nonneg _ h0, by rw [Int.tmod_eq_emod_of_nonneg h0]; omega⟩
 have wK : IntKind.i64.wrap K = K := wrap_i64 (by omega) (by omega)
 have wK' : IntKind.u64.wrap K = K := by rw [IntKind.wrap_u64]; omega
 simp [c_Sstep, DV, ld, td, td49, z49, A0, A1, A34, A33, A35, A36, A38, la, iC, hK, wK, wK', -errV_0]
 by_cases k34 : K = 3 ∨ K = 4
 ·have hgo : ∀ o ∈ a.t.outs, o.ok ∧ o.cs.length ≤ 2000000 := fun o ho => ⟨a4.1.2.2.1 o ho, by have := (a4.2.2.2.2 o ho).1; omega⟩
  cases hou : a.t.outs with
  | nil =>
   rcases k34 with rfl | rfl
   ·simp [ld, td, td49, z49, A0, A1, A34, A33, A35, A36, A38, la, iC, hou, txC, -errV_0]
    exact fin [] (v := STV d) (y := STV d) (by decide) (by simp [resV, resT, evT, STV, ld, td, asT]) (by simp [conR, conT, conTs, STV]) rfl ⟨rfl, d, hg, rfl⟩
   ·simp [ld, td, td49, z49, A0, A1, A34, A33, A35, A36, A38, la, iC, hou, txC, -errV_0]
    exact fin [] (v := STV d) (y := STV d) (by decide) (by simp [resV, resT, evT, STV, ld, td, asT]) (by simp [conR, conT, conTs, STV]) rfl ⟨rfl, d, hg, rfl⟩
  | cons o rest =>
  obtain ⟨ho, ho2⟩ := hgo o (by rw [hou]; simp)
  have hl0 : 0 < (outv a.t.outs).length := by rw [hou]; simp
  have hge : (outv a.t.outs)[0]'hl0 = outF o := by simp [hou, outv]
  have hl1 : 0 < a.t.outs.length := by rw [hou]; simp
  have hn0 : ¬ a.t.outs = [] := by rw [hou]; simp
  have hcG := giveTx_ok a.t a4
  rcases k34 with rfl | rfl
  ·simp [ld, td, td49, z49, A0, A1, A34, A33, A35, A36, A38, la, iC, hn0, hl1, txC, -errV_0]
   refine call0 hcG (by simp [TXv, txC, iC]) ?_
   rintro y H' ⟨rfl, rfl⟩
   refine ⟨.inl (by simp [TXv, txC, iC]), le_ok rfl, ?_⟩
   simp [ld, td, td49, z49, A0, A1, A34, A33, A35, A36, A38, la, iC, hn0, hl1, hge, TXv, txC, outF, iF, -errV_0]
   have hY0 : (spT d a.side o).1.gd := gd_T hg ho
   have c1 := STake_ok d a.side o hg.1 a2 ho ho2
   have c2 := RTak_ok d a.side o hg.1 a2 ho
   generalize spT d a.side o = Q at hY0 c1 c2
   obtain ⟨Y, E⟩ := Q
   have hY : Y.gd := hY0
   refine call0 c1 (by simp [DV, I, outC, iC]) ?_
   rintro y H' ⟨rfl, rfl⟩
   refine ⟨.inl (by simp [DE]), le_ok rfl, ?_⟩
   have lq := deaC_len hY.1.1.1
   have tq : List.take 49 (deaC Y) = deaC Y := List.tkL (by omega)
   have tq49 : List.drop 49 (deaC Y) = [] := List.drop_of_length_le (by omega)
   simp [DE, ld, td, td49, z49, A0, A1, A34, A33, A35, A36, A38, la, lq, tq, tq49, iC, hl1, hge, hn0, outF, iF, txC, -errV_0]
   refine call0 c2 (by simp [DV, I, outC, iC]) ?_
   rintro y H' ⟨rfl, rfl⟩
   refine ⟨.inl (by simp [RDE]), le_ok rfl, ?_⟩
   simp [lq, tq, tq49, DE, RDE, ld, td, td49, z49, iC, -errV_0]
   refine call0 (num_e E) (by simp) ?_
   rintro y H' ⟨rfl, rfl⟩
   refine ⟨.inl (by simp [I]), le_ok rfl, ?_⟩
   simp [I, lq, tq, tq49, ld, td, td49, z49, -errV_0]
   refine call0 (Ssame_ok Y hY) (by simp [DV]) ?_
   rintro y H' ⟨rfl, rfl⟩
   refine ⟨.inl (by simp), le_ok rfl, ?_⟩
   simp [I, lq, tq, tq49, ld, td, td49, z49, -errV_0]
   by_cases he : E = 0
   ·simp [he, lq, tq, tq49, ld, td, td49, z49, -errV_0]
    exact fin [] (v := STV Y) (y := STV Y) (by decide) (by simp [resV, resT, evT, STV, lq, tq, asT]) (by simp [conR, conT, conTs, STV]) rfl ⟨rfl, Y, hY, rfl⟩
   ·simp [he, lq, tq, tq49, ld, td, td49, z49, -errV_0]
    exact fin [] (v := STV d) (y := STV d) (by decide) (by simp [resV, resT, evT, STV, ld, td, asT]) (by simp [conR, conT, conTs, STV]) rfl ⟨rfl, d, hg, rfl⟩
  ·simp [ld, td, td49, z49, A0, A1, A34, A33, A35, A36, A38, la, iC, hn0, hl1, txC, -errV_0]
   refine call0 hcG (by simp [TXv, txC, iC]) ?_
   rintro y H' ⟨rfl, rfl⟩
   refine ⟨.inl (by simp [TXv, txC, iC]), le_ok rfl, ?_⟩
   simp [ld, td, td49, z49, A0, A1, A34, A33, A35, A36, A38, la, iC, hn0, hl1, hge, TXv, txC, outF, iF, -errV_0]
   have hY0 : (spT d a.side o).1.gd := gd_T hg ho
   have c1 := STake_ok d a.side o hg.1 a2 ho ho2
   have c2 := RTak_ok d a.side o hg.1 a2 ho
   generalize spT d a.side o = Q at hY0 c1 c2
   obtain ⟨Y, E⟩ := Q
   have hY : Y.gd := hY0
   refine call0 c1 (by simp [DV, I, outC, iC]) ?_
   rintro y H' ⟨rfl, rfl⟩
   refine ⟨.inl (by simp [DE]), le_ok rfl, ?_⟩
   have lq := deaC_len hY.1.1.1
   have tq : List.take 49 (deaC Y) = deaC Y := List.tkL (by omega)
   have tq49 : List.drop 49 (deaC Y) = [] := List.drop_of_length_le (by omega)
   simp [DE, ld, td, td49, z49, A0, A1, A34, A33, A35, A36, A38, la, lq, tq, tq49, iC, hl1, hge, hn0, outF, iF, txC, -errV_0]
   refine call0 c2 (by simp [DV, I, outC, iC]) ?_
   rintro y H' ⟨rfl, rfl⟩
   refine ⟨.inl (by simp [RDE]), le_ok rfl, ?_⟩
   simp [lq, tq, tq49, DE, RDE, ld, td, td49, z49, iC, -errV_0]
   refine call0 (num_e E) (by simp) ?_
   rintro y H' ⟨rfl, rfl⟩
   refine ⟨.inl (by simp [I]), le_ok rfl, ?_⟩
   simp [I, lq, tq, tq49, ld, td, td49, z49, -errV_0]
   refine call0 (Ssame_ok Y hY) (by simp [DV]) ?_
   rintro y H' ⟨rfl, rfl⟩
   refine ⟨.inl (by simp), le_ok rfl, ?_⟩
   simp [I, lq, tq, tq49, ld, td, td49, z49, -errV_0]
   by_cases he : E = 0
   ·simp [he, lq, tq, tq49, ld, td, td49, z49, -errV_0]
    exact fin [] (v := STV Y) (y := STV Y) (by decide) (by simp [resV, resT, evT, STV, lq, tq, asT]) (by simp [conR, conT, conTs, STV]) rfl ⟨rfl, Y, hY, rfl⟩
   ·simp [he, lq, tq, tq49, ld, td, td49, z49, -errV_0]
    exact fin [] (v := STV d) (y := STV d) (by decide) (by simp [resV, resT, evT, STV, ld, td, asT]) (by simp [conR, conT, conTs, STV]) rfl ⟨rfl, d, hg, rfl⟩
 by_cases k5 : K = 5
 ·subst k5
  simp [ld, td, td49, z49, A0, A1, A34, A33, A35, A36, A38, la, iC, -errV_0]
  have hY0 : (spC d a.side).1.gd := gd_C hg
  have c1 := SClose_ok d a.side hg.1 a2
  have c2 := RClo_ok d a.side hg.1 a2
  generalize spC d a.side = Q at hY0 c1 c2
  obtain ⟨Y, E⟩ := Q
  have hY : Y.gd := hY0
  refine call0 c1 (by simp [DV, I]) ?_
  rintro y H' ⟨rfl, rfl⟩
  refine ⟨.inl (by simp [DE]), le_ok rfl, ?_⟩
  have lq := deaC_len hY.1.1.1
  have tq : List.take 49 (deaC Y) = deaC Y := List.tkL (by omega)
  have tq49 : List.drop 49 (deaC Y) = [] := List.drop_of_length_le (by omega)
  simp [DE, ld, td, td49, z49, A0, A1, A34, A33, A35, A36, A38, la, lq, tq, tq49, iC, -errV_0]
  refine call0 c2 (by simp [DV, I]) ?_
  rintro y H' ⟨rfl, rfl⟩
  refine ⟨.inl (by simp [RDE]), le_ok rfl, ?_⟩
  simp [lq, tq, tq49, DE, RDE, ld, td, td49, z49, iC, -errV_0]
  refine call0 (num_e E) (by simp) ?_
  rintro y H' ⟨rfl, rfl⟩
  refine ⟨.inl (by simp [I]), le_ok rfl, ?_⟩
  simp [I, lq, tq, tq49, ld, td, td49, z49, -errV_0]
  refine call0 (Ssame_ok Y hY) (by simp [DV]) ?_
  rintro y H' ⟨rfl, rfl⟩
  refine ⟨.inl (by simp), le_ok rfl, ?_⟩
  simp [I, lq, tq, tq49, ld, td, td49, z49, -errV_0]
  by_cases he : E = 0
  ·simp [he, lq, tq, tq49, ld, td, td49, z49, -errV_0]
   exact fin [] (v := STV Y) (y := STV Y) (by decide) (by simp [resV, resT, evT, STV, lq, tq, asT]) (by simp [conR, conT, conTs, STV]) rfl ⟨rfl, Y, hY, rfl⟩
  ·simp [he, lq, tq, tq49, ld, td, td49, z49, -errV_0]
   exact fin [] (v := STV d) (y := STV d) (by decide) (by simp [resV, resT, evT, STV, ld, td, asT]) (by simp [conR, conT, conTs, STV]) rfl ⟨rfl, d, hg, rfl⟩
 have k3 : ¬ K = 3 := fun h => k34 (.inl h)
 have k4 : ¬ K = 4 := fun h => k34 (.inr h)
 simp [k3, k4, k5, z33c, a3.1, tk33x a3.1, dr34x a3.1, frzAll_hc, ld, td, td49, z49, A0, A1, A34, A33, A35, A36, A38, la, iC, -errV_0]
 have hY0 : (spB d a.side a.coin).1.gd := gd_B hg a3
 have c1 := SBring_ok d a.side a.coin hg.1 a2 a3
 have c2 := RBri_ok d a.side a.coin hg.1 a2 a3
 generalize spB d a.side a.coin = Q at hY0 c1 c2
 obtain ⟨Y, E⟩ := Q
 have hY : Y.gd := hY0
 refine call0 c1 (by simp [DV, I, coiC, iC]) ?_
 rintro y H' ⟨rfl, rfl⟩
 refine ⟨.inl (by simp [DE]), le_ok rfl, ?_⟩
 have lq := deaC_len hY.1.1.1
 have tq : List.take 49 (deaC Y) = deaC Y := List.tkL (by omega)
 have tq49 : List.drop 49 (deaC Y) = [] := List.drop_of_length_le (by omega)
 simp [DE, ld, td, td49, z49, A0, A1, A34, A33, A35, A36, A38, la, lq, tq, tq49, iC, -errV_0]
 refine call0 c2 (by simp [DV, I, coiC, iC]) ?_
 rintro y H' ⟨rfl, rfl⟩
 refine ⟨.inl (by simp [RDE]), le_ok rfl, ?_⟩
 simp [lq, tq, tq49, DE, RDE, ld, td, td49, z49, iC, -errV_0]
 refine call0 (num_e E) (by simp) ?_
 rintro y H' ⟨rfl, rfl⟩
 refine ⟨.inl (by simp [I]), le_ok rfl, ?_⟩
 simp [I, lq, tq, tq49, ld, td, td49, z49, -errV_0]
 refine call0 (Ssame_ok Y hY) (by simp [DV]) ?_
 rintro y H' ⟨rfl, rfl⟩
 refine ⟨.inl (by simp), le_ok rfl, ?_⟩
 simp [I, lq, tq, tq49, ld, td, td49, z49, -errV_0]
 by_cases he : E = 0
 ·simp [he, lq, tq, tq49, ld, td, td49, z49, -errV_0]
  exact fin [] (v := STV Y) (y := STV Y) (by decide) (by simp [resV, resT, evT, STV, lq, tq, asT]) (by simp [conR, conT, conTs, STV]) rfl ⟨rfl, Y, hY, rfl⟩
 ·simp [he, lq, tq, tq49, ld, td, td49, z49, -errV_0]
  exact fin [] (v := STV d) (y := STV d) (by decide) (by simp [resV, resT, evT, STV, ld, td, asT]) (by simp [conR, conT, conTs, STV]) rfl ⟨rfl, d, hg, rfl⟩
end Go.Proofs.YtddcceahaigodaaGreatDoor
