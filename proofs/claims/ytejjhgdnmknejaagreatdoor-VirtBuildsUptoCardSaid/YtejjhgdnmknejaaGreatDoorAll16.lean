import Derived.Test.YtejjhgdnmknejaaGreatDoorAll9
import Derived.Test.YtejjhgdnmknejaaGreatDoorAll15
import Derived.Test.YtejjhgdnmknejaaGreatDoorAll14
import Derived.Test.YtejjhgdnmknejaaGreatDoorAll6
import Derived.Test.YtejjhgdnmknejaaGreatDoorAll12
import Derived.Test.YtejjhgdnmknejaaGreatDoorAll13
set_option maxHeartbeats 64000000
namespace Go.Proofs.YtejjhgdnmknejaaGreatDoor
open Go Go.EW
set_option linter.unusedSimpArgs false
set_option linter.unusedVariables false
def ylox : UL | _ => [xW 0 1 28 0, xQ 1 2 (.alloc 42 (zU8 ++ [xZ, xZ, xZ, xZ, xZ, xZ]))]
def yloy : UL | _ => [xF 6 9 36 1, xL 7 10 9, xF 8 11 37 1, xL 9 12 11, xQ 10 13 (.build (zU8 ++ [xZ, xZ, xZ, xZ, xZ, xZ]) [(0, 33, .t 4), (33, 1, .t 6), (34, 2, .t 8), (36, 1, .t 10), (37, 1, .t 12)]), xN 11 (.sto 38 (.t 2) (.t 13))]
def yloz : UL | _ => xF 0 3 0 1 :: xD 1 4 33 3 :: xF 2 5 33 1 :: xL 3 6 5 :: xF 4 7 34 1 :: xD 5 8 2 7 :: hid yloy
def ybp0 : UB | _ => .seq (reg0 (hid ylox) 2) (.seq (reg0 (hid yloz) 12) .ret)
attribute [simp] ylox yloy yloz ybp0
def c_giveP : EB × List QOp × Nat := ((hid ybp0), [(.lda 38 (.t 2))], 14)
theorem k_giveP : cfun Tryz.prog 26 = some c_giveP := by kernel_rfl
theorem pm_33 {p : Prm} (h : p.tx.length = 32) : (prmC p).take 33 = hc p.tx ++ [iC p.n] := by
 have e : (hc p.tx).length = 32 := by rw [hc_len, h]
 unfold prmC
 rw [List.take_append, e, List.tkL (by omega)]
 rfl
theorem pm_at {p : Prm} (h : p.tx.length = 32) (i : Nat) : (prmC p)[32 + i]? = [iC p.n, iC p.am, iC p.k0, iC p.k1, iC p.dl, iC p.fe][i]? := by
 have e : (hc p.tx).length = 32 := by rw [hc_len, h]
 unfold prmC
 rw [List.getElem?_append_right (by omega), e]
 congr 1
 omega
theorem list32 (l : List EC) (h : l.length = 32) : ∃ c0 c1 c2 c3 c4 c5 c6 c7 c8 c9 c10 c11 c12 c13 c14 c15 c16 c17 c18 c19 c20 c21 c22 c23 c24 c25 c26 c27 c28 c29 c30 c31, l = [c0, c1, c2, c3, c4, c5, c6, c7, c8, c9, c10, c11, c12, c13, c14, c15, c16, c17, c18, c19, c20, c21, c22, c23, c24, c25, c26, c27, c28, c29, c30, c31] := by
 match l, h with
 | [c0, c1, c2, c3, c4, c5, c6, c7, c8, c9, c10, c11, c12, c13, c14, c15, c16, c17, c18, c19, c20, c21, c22, c23, c24, c25, c26, c27, c28, c29, c30, c31], _ => exact ⟨c0, c1, c2, c3, c4, c5, c6, c7, c8, c9, c10, c11, c12, c13, c14, c15, c16, c17, c18, c19, c20, c21, c22, c23, c24, c25, c26, c27, c28, c29, c30, c31, rfl⟩
set_option maxRecDepth 8000 in
theorem giveP_ok (p : Prm) (hp : p.tx.length = 32) : ECalls Tryz.prog 26 [PVv p] [] fun y H' => H' = [] ∧ y = PVv p := by
 have h1 := prmC_len hp
 have h2 := pm_take hp
 have h3 := pm_d34 hp
 have h4 := pm_33 hp
 have e33 := idx_of (pm_at hp 1) (by omega)
 have e36 := idx_of (pm_at hp 4) (by omega)
 have e37 := idx_of (pm_at hp 5) (by omega)
 have e : (hc p.tx).length = 32 := by rw [hc_len, hp]
 refine ecalls k_giveP ?_
 simp [c_giveP, PVv, h1, h2, h3, h4, e33, e36, e37, e, hp, iC]
 obtain ⟨c0, c1, c2, c3, c4, c5, c6, c7, c8, c9, c10, c11, c12, c13, c14, c15, c16, c17, c18, c19, c20, c21, c22, c23, c24, c25, c26, c27, c28, c29, c30, c31, hX⟩ := list32 (hc p.tx) e
 have hP : prmC p = [c0, c1, c2, c3, c4, c5, c6, c7, c8, c9, c10, c11, c12, c13, c14, c15, c16, c17, c18, c19, c20, c21, c22, c23, c24, c25, c26, c27, c28, c29, c30, c31, iC p.n, iC p.am, iC p.k0, iC p.k1, iC p.dl, iC p.fe] := by unfold prmC; rw [hX]; rfl
 rw [hX]
 exact fin [] (by decide) (v := .v (.agg [c0, c1, c2, c3, c4, c5, c6, c7, c8, c9, c10, c11, c12, c13, c14, c15, c16, c17, c18, c19, c20, c21, c22, c23, c24, c25, c26, c27, c28, c29, c30, c31, iC p.n, iC p.am, iC p.k0, iC p.k1, iC p.dl, iC p.fe])) rfl (y := PVv p) (by rw [← hP]; simp [conR, conTs, conT, PVv]) rfl ⟨rfl, rfl⟩
def ylp2 : UL | _ => [xG 24 31 19 false (.pick (.t 25) (.t 30) (.k (.bool false))), xP 25 32 19 31, xM 26 6 32]
def ylp3 : UL | _ => yM 18 25 19 false 24 :: yF 19 26 25 true 34 3 :: xG 20 27 25 true (.iad 2 1 (.t 26) (xK 1)) :: yL 21 28 25 true 27 :: yM 22 29 25 true 1 :: xG 23 30 25 true (.bin .eql (.t 28) (.t 29)) :: hid ylp2
def ylp4 : UL | _ => xM 12 19 18 :: yF 13 20 19 false 34 3 :: xG 14 21 19 false (.iad 2 1 (.t 20) (xK 0)) :: yL 15 22 19 false 21 :: yM 16 23 19 false 2 :: xG 17 24 19 false (.bin .eql (.t 22) (.t 23)) :: hid ylp3
def ylp5 : UL | _ => yF 6 13 12 true 34 3 :: xG 7 14 12 true (.iad 2 1 (.t 13) (xK 1)) :: yL 8 15 12 true 14 :: yM 9 16 12 true 2 :: xG 10 17 12 true (.bin .eql (.t 15) (.t 16)) :: xR 11 18 12 17 :: hid ylp4
def ylp6 : UL | _ => xF 0 7 34 3 :: xQ 1 8 (.iad 2 1 (.t 7) (xK 0)) :: xL 2 9 8 :: xM 3 10 1 :: xb 4 11 .eql 9 10 :: xM 5 12 11 :: hid ylp5
def ybp7 : UB | _ => .seq (reg0 [xW 0 3 28 0, xQ 1 6 (.mov (.k (.bool false)))] 2) (.seq (reg0 (hid ylp6) 27) .ret)
attribute [simp] ylp2 ylp3 ylp4 ylp5 ylp6 ybp7
def c_Rpair : EB × List QOp × Nat := ((hid ybp7), [(.mov (.t 6))], 33)
theorem k_Rpair : cfun Tryz.prog 51 = some c_Rpair := by kernel_rfl
theorem ofV_f {p : Prm} {a b : Int} (c1 : ¬ (p.k0 = a ∧ p.k1 = b)) : ofV p a b = (decide (p.k0 = b) && decide (p.k1 = a)) := by
 unfold ofV
 by_cases c2 : p.k0 = b ∧ p.k1 = a
 ·rw [decide_eq_true (.inr c2), decide_eq_true c2.1, decide_eq_true c2.2]; rfl
 ·rw [decide_eq_false (by omega)]
  by_cases c3 : p.k0 = b
  ·rw [decide_eq_true c3, decide_eq_false (fun h => c2 ⟨c3, h⟩)]; rfl
  ·rw [decide_eq_false c3]; rfl
theorem Rpair_ok (p : Prm) (a b : Int) (hp : p.tx.length = 32) : ECalls Tryz.prog 51 [PVv p, I .i64 a, I .i64 b] [] fun y H' => H' = [] ∧ y = .lit (.bool (ofV p a b)) := by
 have h1 := prmC_len hp
 have h2 := pm_take hp
 have e34 := idx_of (pm_34 hp) (by omega)
 have e35 := idx_of (pm_35 hp) (by omega)
 refine ecalls k_Rpair ?_
 simp [c_Rpair, I, PVv, h1, h2, e34, e35, iC]
 by_cases c1 : p.k0 = a
 ·by_cases c2 : p.k1 = b
  ·have hv : ofV p a b = true := decide_eq_true (.inl ⟨c1, c2⟩)
   rw [hv]
   simp [c1, c2, h1, e34, e35, iC]
   exact fin0
  ·have hv : ofV p a b = (decide (p.k0 = b) && decide (p.k1 = a)) := ofV_f (fun h => c2 h.2)
   rw [hv]
   simp [c1, c2, h1, e34, e35, iC]
   refine alt (fun c3 => ?_) (fun c3 => ?_)
   ·simp [c3, h1, e34, e35, iC]
    exact fin0
   ·simp [c3]
    exact fin0
 ·have hv : ofV p a b = (decide (p.k0 = b) && decide (p.k1 = a)) := ofV_f (fun h => c1 h.1)
  rw [hv]
  simp [c1, h1, e34, e35, iC]
  refine alt (fun c3 => ?_) (fun c3 => ?_)
  ·simp [c3, h1, e34, e35, iC]
   exact fin0
  ·simp [c3]
   exact fin0
def ylp8 : UL | _ => [xW 0 1 31 0, xQ 1 2 (.alloc 44 (zU8 ++ (([xZ, xZ, xZ, xZ, xZ, xZ] : List Value) ++ zU8 ++ [xZ, xZ, xZ, xZ, xZ, xZ, xZ, xZ, xZ, xZ, xZ])))]
def ylp9 : UL | _ => [xQ 12 15 (.build (zU8 ++ (([xZ, xZ, xZ, xZ, xZ, xZ] : List Value) ++ zU8 ++ [xZ, xZ, xZ, xZ, xZ, xZ, xZ, xZ, xZ, xZ, xZ])) [(0, 38, .t 5), (38, 38, .t 8), (76, 3, .t 10), (79, 1, .t 12), (80, 1, .t 14)]), xN 13 (.sto 81 (.t 2) (.t 15))]
def ylpa : UL | _ => xF 8 11 79 1 :: xL 9 12 11 :: xF 10 13 80 1 :: xL 11 14 13 :: ⟨2, (some 5), none, (.call 26 [.t 4]), [3, 4, 6, 7, 8, 9, 10, 11]⟩ :: ⟨5, (some 8), none, (.call 26 [.t 7]), [6, 7, 8, 9, 10, 11]⟩ :: hid ylp9
def ylpb : UL | _ => xF 0 3 0 1 :: xD 1 4 38 3 :: xF 3 6 38 1 :: xD 4 7 38 6 :: xF 6 9 76 1 :: xD 7 10 3 9 :: hid ylpa
def ybpc : UB | _ => .seq (reg0 (hid ylp8) 2) (.seq (reg1 (hid ylpb) 14) .ret)
attribute [simp] ylp8 ylp9 ylpa ylpb ybpc
def c_giveR : EB × List QOp × Nat := ((hid ybpc), [(.lda 81 (.t 2))], 16)
theorem k_giveR : cfun Tryz.prog 9 = some c_giveR := by kernel_rfl
def ybpe : UB | _ => reg0 [xW 0 2 28 0, xC 1 4 0, xC 2 5 0] 3
def ybpg : UB | _ => reg0 [xC 0 6 0] 1
def ybpi : UB | _ => reg0 [xM 0 7 6, xc 1 8 .lss 7 2] 2
def ylpj : UL | _ => [xM 0 11 6, xF 1 12 34 2, xQ 2 13 (.iad 2 1 (.t 12) (.t 11)), xL 3 14 13, xM 4 15 1, xb 5 16 .eql 14 15]
def ybpk : UB | _ => reg0 (hid ylpj) 6
def ybpm : UB | _ => reg0 [xM 0 17 6, xM 1 4 17, xC 2 5 0] 3
def ybpo : UB | _ => reg0 [xM 0 9 6, xc 1 10 .add 9 1, xM 2 6 10] 3
def ybpq : UB | _ => reg0 [xC 0 4 0, xC 1 5 33] 2
attribute [simp] ybpe ybpg ybpi ylpj ybpk ybpm ybpo ybpq
set_option maxRecDepth 8000 in
theorem giveR_ok (r : Rte) (h1 : r.f.tx.length = 32) (h2 : r.s.tx.length = 32) : ECalls Tryz.prog 9 [RVv r] [] fun y H' => H' = [] ∧ y = RVv r := by
 have l0 := rteC_len h1 h2
 have t0 := rt_take h1 h2
 have d76 := rt_d76 h1 h2
 have t38 := rt_t38 h1
 have s38 := rt_s38 h1 h2
 have e79 := idx_of (rt_79 h1 h2) (by omega)
 have e80 := idx_of (rt_80 h1 h2) (by omega)
 have lf := prmC_len h1
 have ls := prmC_len h2
 refine ecalls k_giveR ?_
 simp [c_giveR, RVv, l0, t0, e79, e80, d76, t38, s38, iC]
 refine call0 (giveP_ok r.f h1) (by simp [PVv]) ?_
 rintro y H' ⟨rfl, rfl⟩
 refine ⟨.inl (by simp [PVv]), le_ok rfl, ?_⟩
 simp [PVv, l0, t0, e79, e80, d76, t38, s38, iC]
 refine call0 (giveP_ok r.s h2) (by simp [PVv]) ?_
 rintro y H' ⟨rfl, rfl⟩
 refine ⟨.inl (by simp [PVv]), le_ok rfl, ?_⟩
 simp [PVv, l0, t0, e79, e80, d76, t38, s38, lf, ls, iC]
 obtain ⟨c0, c1, c2, c3, c4, c5, c6, c7, c8, c9, c10, c11, c12, c13, c14, c15, c16, c17, c18, c19, c20, c21, c22, c23, c24, c25, c26, c27, c28, c29, c30, c31, hX⟩ := list32 (hc r.f.tx) (by rw [hc_len, h1])
 obtain ⟨d0, d1, d2, d3, d4, d5, d6, d7, d8, d9, d10, d11, d12, d13, d14, d15, d16, d17, d18, d19, d20, d21, d22, d23, d24, d25, d26, d27, d28, d29, d30, d31, hY⟩ := list32 (hc r.s.tx) (by rw [hc_len, h2])
 have hPf : prmC r.f = c0 :: c1 :: c2 :: c3 :: c4 :: c5 :: c6 :: c7 :: c8 :: c9 :: c10 :: c11 :: c12 :: c13 :: c14 :: c15 :: c16 :: c17 :: c18 :: c19 :: c20 :: c21 :: c22 :: c23 :: c24 :: c25 :: c26 :: c27 :: c28 :: c29 :: c30 :: c31 :: iC r.f.n :: iC r.f.am :: iC r.f.k0 :: iC r.f.k1 :: iC r.f.dl :: iC r.f.fe :: [] := by unfold prmC; rw [hX]; rfl
 have hPs : prmC r.s = d0 :: d1 :: d2 :: d3 :: d4 :: d5 :: d6 :: d7 :: d8 :: d9 :: d10 :: d11 :: d12 :: d13 :: d14 :: d15 :: d16 :: d17 :: d18 :: d19 :: d20 :: d21 :: d22 :: d23 :: d24 :: d25 :: d26 :: d27 :: d28 :: d29 :: d30 :: d31 :: iC r.s.n :: iC r.s.am :: iC r.s.k0 :: iC r.s.k1 :: iC r.s.dl :: iC r.s.fe :: [] := by unfold prmC; rw [hY]; rfl
 have hP : rteC r = c0 :: c1 :: c2 :: c3 :: c4 :: c5 :: c6 :: c7 :: c8 :: c9 :: c10 :: c11 :: c12 :: c13 :: c14 :: c15 :: c16 :: c17 :: c18 :: c19 :: c20 :: c21 :: c22 :: c23 :: c24 :: c25 :: c26 :: c27 :: c28 :: c29 :: c30 :: c31 :: iC r.f.n :: iC r.f.am :: iC r.f.k0 :: iC r.f.k1 :: iC r.f.dl :: iC r.f.fe :: d0 :: d1 :: d2 :: d3 :: d4 :: d5 :: d6 :: d7 :: d8 :: d9 :: d10 :: d11 :: d12 :: d13 :: d14 :: d15 :: d16 :: d17 :: d18 :: d19 :: d20 :: d21 :: d22 :: d23 :: d24 :: d25 :: d26 :: d27 :: d28 :: d29 :: d30 :: d31 :: iC r.s.n :: iC r.s.am :: iC r.s.k0 :: iC r.s.k1 :: iC r.s.dl :: iC r.s.fe :: iC r.a :: iC r.b :: iC r.c :: iC r.am :: iC r.fe :: [] := by unfold rteC; rw [hPf, hPs]; rfl
 rw [hPf, hPs]
 exact fin [] (by decide) (v := .v (.agg (c0 :: c1 :: c2 :: c3 :: c4 :: c5 :: c6 :: c7 :: c8 :: c9 :: c10 :: c11 :: c12 :: c13 :: c14 :: c15 :: c16 :: c17 :: c18 :: c19 :: c20 :: c21 :: c22 :: c23 :: c24 :: c25 :: c26 :: c27 :: c28 :: c29 :: c30 :: c31 :: iC r.f.n :: iC r.f.am :: iC r.f.k0 :: iC r.f.k1 :: iC r.f.dl :: iC r.f.fe :: d0 :: d1 :: d2 :: d3 :: d4 :: d5 :: d6 :: d7 :: d8 :: d9 :: d10 :: d11 :: d12 :: d13 :: d14 :: d15 :: d16 :: d17 :: d18 :: d19 :: d20 :: d21 :: d22 :: d23 :: d24 :: d25 :: d26 :: d27 :: d28 :: d29 :: d30 :: d31 :: iC r.s.n :: iC r.s.am :: iC r.s.k0 :: iC r.s.k1 :: iC r.s.dl :: iC r.s.fe :: iC r.a :: iC r.b :: iC r.c :: iC r.am :: iC r.fe :: []))) rfl (y := RVv r) (by rw [← hP]; simp [conR, conTs, conT, RVv]) rfl ⟨rfl, rfl⟩
def ylpu : UL | _ => [xP 24 32 20 31]
def ylpv : UL | _ => xG 18 26 20 false (.bin .add (.t 25) (xK 1)) :: xG 19 27 20 false (.bin .rem (.t 26) (xK 3)) :: yF 20 28 20 false 76 1 :: xG 21 29 20 false (.iad 3 1 (.t 28) (.t 27)) :: yL 22 30 20 false 29 :: xG 23 31 20 false (.bin .eql (.t 24) (.t 30)) :: hid ylpu
def ylpw : UL | _ => xM 12 20 19 :: yM 13 21 20 false 3 :: yF 14 22 20 false 76 1 :: xG 15 23 20 false (.iad 3 1 (.t 22) (.t 21)) :: yL 16 24 20 false 23 :: yM 17 25 20 false 3 :: hid ylpv
def ylpx : UL | _ => yM 6 14 13 false 3 :: yF 7 15 13 false 76 1 :: xG 8 16 13 false (.iad 3 1 (.t 15) (.t 14)) :: yL 9 17 13 false 16 :: xG 10 18 13 false (.bin .gtr (.t 17) (xK 15)) :: xP 11 19 13 18 :: hid ylpw
def ylpy : UL | _ => xM 0 8 3 :: xF 1 9 76 1 :: xQ 2 10 (.iad 3 1 (.t 9) (.t 8)) :: xL 3 11 10 :: xc 4 12 .lss 11 0 :: xM 5 13 12 :: hid ylpx
def ybq2 : UB | _ => .seq (.seq (reg0 [xM 0 4 3, xc 1 5 .lss 4 3] 2) (.cond (.t 5) .skip (.exit 0))) (.seq (.block 1 (.seq (reg0 (hid ylpy) 25) (.cond (.t 32) (.seq (reg0 [xC 0 2 33] 1) .ret) .skip))) (reg0 [xM 0 6 3, xc 1 7 .add 6 1, xM 2 3 7] 3))
def ylq3 : UL | _ => [yL 18 51 43 false 50, ⟨19, (some 52), (some (43, false)), (.call 51 [.t 45, .t 48, .t 51]), []⟩, xG 20 53 43 false (.un .not (.t 52)), xP 21 54 43 53]
def ylq4 : UL | _ => xG 12 45 43 false (.lda 38 (.t 44)) :: yF 13 46 43 false 76 1 :: xG 14 47 43 false (.iad 3 1 (.t 46) (xK 1)) :: yL 15 48 43 false 47 :: yF 16 49 43 false 76 1 :: xG 17 50 43 false (.iad 3 1 (.t 49) (xK 2)) :: hid ylq3
def ylq5 : UL | _ => xQ 6 39 (.iad 3 1 (.t 38) (xK 1)) :: xL 7 40 39 :: xO 8 41 (.call 51 [.t 34, .t 37, .t 40]) :: xQ 9 42 (.un .not (.t 41)) :: xM 10 43 42 :: yF 11 44 43 false 38 1 :: hid ylq4
def ylq6 : UL | _ => xF 0 33 0 1 :: xD 1 34 38 33 :: xF 2 35 76 1 :: xQ 3 36 (.iad 3 1 (.t 35) (xK 0)) :: xL 4 37 36 :: xF 5 38 76 1 :: hid ylq5
def ylq9 : UL | _ => [xP 12 67 63 66]
def ylqa : UL | _ => xG 6 61 58 false (.bin .gtr (.t 60) (xK 1125899906842624)) :: xP 7 62 58 61 :: xM 8 63 62 :: yF 9 64 63 false 79 1 :: yL 10 65 63 false 64 :: xG 11 66 63 false (.bin .gtr (.t 65) (xK 1125899906842624)) :: hid ylq9
def ylqb : UL | _ => xF 0 55 80 1 :: xL 1 56 55 :: xc 2 57 .lss 56 0 :: xM 3 58 57 :: yF 4 59 58 false 80 1 :: yL 5 60 58 false 59 :: hid ylqa
def ylqe : UL | _ => [yF 6 74 71 false 80 1, yL 7 75 71 false 74, xG 8 76 71 false (.bin .sub (.t 73) (.t 75)), xG 9 77 71 false (.bin .lss (.t 76) (xK 10)), xP 10 78 71 77]
def ylqf : UL | _ => xF 0 68 79 1 :: xL 1 69 68 :: xc 2 70 .lss 69 10 :: xM 3 71 70 :: yF 4 72 71 false 79 1 :: yL 5 73 71 false 72 :: hid ylqe
def ybqj : UB | _ => .seq (.seq (reg0 (hid ylqb) 13) (.cond (.t 67) (.seq (reg0 [xC 0 2 1] 1) .ret) .skip)) (.seq (.seq (reg0 (hid ylqf) 11) (.cond (.t 78) (.seq (reg0 [xC 0 2 27] 1) .ret) .skip)) (.seq (reg0 [xC 0 2 0] 1) .ret))
def ybqk : UB | _ => .seq (.seq (reg0 [xC 0 3 0] 1) (.block 0 (.loop (hid ybq2)))) (.seq (.seq (reg0 (hid ylq6) 22) (.cond (.t 54) (.seq (reg0 [xC 0 2 33] 1) .ret) .skip)) (hid ybqj))
def ybql : UB | _ => .seq (reg0 [xW 0 1 31 0, xC 1 2 0] 2) (hid ybqk)
attribute [simp] ylpu ylpv ylpw ylpx ylpy ybq2 ylq3 ylq4 ylq5 ylq6 ylq9 ylqa ylqb ylqe ylqf ybqj ybqk ybql
def c_RCheckV : EB × List QOp × Nat := ((hid ybql), [(.mov (.t 2))], 79)
theorem k_RCheckV : cfun Tryz.prog 16 = some c_RCheckV := by kernel_rfl
def endV (x y : Int) : Prop := 0 ≤ x ∧ x < 16 ∧ ¬ x = y
structure RcI (r : Rte) (i : Nat) : Prop where
 le : i ≤ 3
 a : 0 < i → endV r.a r.b
 b : 1 < i → endV r.b r.c
 c : 2 < i → endV r.c r.a
theorem chk_33 {r : Rte} (h : ¬ prtV r) : chkV r = 33 := by unfold chkV; rw [if_pos h]
theorem RCheckV_ok (r : Rte) (hr : r.ok) : ECalls Tryz.prog 16 [RVv r] [] fun y H' => H' = [] ∧ y = I .i64 (chkV r) := by
 obtain ⟨⟨h1, _⟩, ⟨h2, _⟩, ⟨ha0, ha1⟩, ⟨hb0, hb1⟩, ⟨hc0, hc1⟩, ⟨hm0, hm1⟩, ⟨hf0, hf1⟩⟩ := id hr
 have l0 := rteC_len h1 h2
 have t0 := rt_take h1 h2
 have t38 := rt_t38 h1
 have s38 := rt_s38 h1 h2
 have e76 := idx_of (rt_76 h1 h2) (by omega)
 have e77 := idx_of (rt_77 h1 h2) (by omega)
 have e78 := idx_of (rt_78 h1 h2) (by omega)
 have e79 := idx_of (rt_79 h1 h2) (by omega)
 have e80 := idx_of (rt_80 h1 h2) (by omega)
 have w1 : IntKind.i64.wrap 1 = 1 := by decide +kernel
 have w2 : IntKind.i64.wrap 2 = 2 := by decide +kernel
 have w3 : IntKind.i64.wrap (1 + 1) = 2 := by decide +kernel
 have w4 : IntKind.i64.wrap (2 + 1) = 3 := by decide +kernel
 have w5 : IntKind.i64.wrap 3 = 3 := by decide +kernel
 have w6 : IntKind.i64.wrap 0 = 0 := by decide +kernel
 have w7 : IntKind.i64.wrap (0 + 1) = 1 := by decide +kernel
 refine ecalls k_RCheckV ?_
 simp [c_RCheckV, RVv, I, l0, t0, e76, e77, e78, e79, e80, t38, s38, iC]
 refine eloop (α := Nat) (RcI r) (fun i => 3 - i) (fun i => [RVv r, .v (.c (.ptr 0 0)), I .i64 0, I .i64 i, xA, xA, xA, xA, xA, xA, xA, xA, xA, xA, xA, xA, xA, xA, xA, xA, xA, xA, xA, xA, xA, xA, xA, xA, xA, xA, xA, xA, xA, xA, xA, xA, xA, xA, xA, xA, xA, xA, xA, xA, xA, xA, xA, xA, xA, xA, xA, xA, xA, xA, xA, xA, xA, xA, xA, xA, xA, xA, xA, xA, xA, xA, xA, xA, xA, xA, xA, xA, xA, xA, xA, xA, xA, xA, .any]) (fun _ => [some (.box 31 (rteC r))]) 0 [0]
  ⟨by omega, by omega, by omega, by omega⟩ (by simp [I, RVv, t0]) (by simp) (by simp) (by simp) (by simp) ?_
 intro i hi
 rcases (by have := hi.le; omega : i = 0 ∨ i = 1 ∨ i = 2 ∨ i = 3) with rfl | rfl | rfl | rfl
 ·have hp : ∀ q : ¬ endV r.a r.b, chkV r = 33 := fun q => chk_33 (fun h => q (by obtain ⟨⟨_, _⟩, ⟨_, _⟩, ⟨_, _⟩, _, _, _, _, _⟩ := h; exact ⟨by omega, by omega, by omega⟩))
  by_cases z1 : r.a < 0
  ·have z1' : ¬ 0 ≤ r.a := by omega
   rw [hp (fun h => by obtain ⟨_, _, _⟩ := h; omega)]
   simp [I, RVv, l0, t0, e76, e77, e78, e79, e80, t38, s38, iC, w1, w2, w3, w4, w5, w6, w7, z1, z1']
   exact fin0
  have z1' : 0 ≤ r.a := by omega
  by_cases z2 : 15 < r.a
  ·have z2' : ¬ r.a ≤ 15 := by omega
   rw [hp (fun h => by obtain ⟨_, _, _⟩ := h; omega)]
   simp [I, RVv, l0, t0, e76, e77, e78, e79, e80, t38, s38, iC, w1, w2, w3, w4, w5, w6, w7, z1, z1', z2, z2']
   exact fin0
  have z2' : r.a ≤ 15 := by omega
  by_cases z3 : r.a = r.b
  ·have z3' : r.b = r.a := z3.symm
   rw [hp (fun h => by obtain ⟨_, _, _⟩ := h; omega)]
   simp [I, RVv, l0, t0, e76, e77, e78, e79, e80, t38, s38, iC, w1, w2, w3, w4, w5, w6, w7, z1, z1', z2, z2', z3']
   exact fin0
  have z3' : ¬ r.b = r.a := fun h => z3 h.symm
  simp [I, RVv, l0, t0, e76, e77, e78, e79, e80, t38, s38, iC, w1, w2, w3, w4, w5, w6, w7, z1, z1', z2, z2', z3]
  exact round 1 [0] ⟨by omega, fun _ => ⟨by omega, by omega, z3⟩, by omega, by omega⟩ (by omega) (by simp [I, RVv]) (by simp [RVv]) (by simp) (by simp) (by simp)
 ·have hp : ∀ q : ¬ endV r.b r.c, chkV r = 33 := fun q => chk_33 (fun h => q (by obtain ⟨⟨_, _⟩, ⟨_, _⟩, ⟨_, _⟩, _, _, _, _, _⟩ := h; exact ⟨by omega, by omega, by omega⟩))
  by_cases z1 : r.b < 0
  ·have z1' : ¬ 0 ≤ r.b := by omega
   rw [hp (fun h => by obtain ⟨_, _, _⟩ := h; omega)]
   simp [I, RVv, l0, t0, e76, e77, e78, e79, e80, t38, s38, iC, w1, w2, w3, w4, w5, w6, w7, z1, z1']
   exact fin0
  have z1' : 0 ≤ r.b := by omega
  by_cases z2 : 15 < r.b
  ·have z2' : ¬ r.b ≤ 15 := by omega
   rw [hp (fun h => by obtain ⟨_, _, _⟩ := h; omega)]
   simp [I, RVv, l0, t0, e76, e77, e78, e79, e80, t38, s38, iC, w1, w2, w3, w4, w5, w6, w7, z1, z1', z2, z2']
   exact fin0
  have z2' : r.b ≤ 15 := by omega
  by_cases z3 : r.b = r.c
  ·have z3' : r.c = r.b := z3.symm
   rw [hp (fun h => by obtain ⟨_, _, _⟩ := h; omega)]
   simp [I, RVv, l0, t0, e76, e77, e78, e79, e80, t38, s38, iC, w1, w2, w3, w4, w5, w6, w7, z1, z1', z2, z2', z3']
   exact fin0
  have z3' : ¬ r.c = r.b := fun h => z3 h.symm
  simp [I, RVv, l0, t0, e76, e77, e78, e79, e80, t38, s38, iC, w1, w2, w3, w4, w5, w6, w7, z1, z1', z2, z2', z3]
  exact round 2 [0] ⟨by omega, fun _ => hi.a (by omega), fun _ => ⟨by omega, by omega, z3⟩, by omega⟩ (by omega) (by simp [I, RVv]) (by simp [RVv]) (by simp) (by simp) (by simp)
 ·have hp : ∀ q : ¬ endV r.c r.a, chkV r = 33 := fun q => chk_33 (fun h => q (by obtain ⟨⟨_, _⟩, ⟨_, _⟩, ⟨_, _⟩, _, _, _, _, _⟩ := h; exact ⟨by omega, by omega, by omega⟩))
  by_cases z1 : r.c < 0
  ·have z1' : ¬ 0 ≤ r.c := by omega
   rw [hp (fun h => by obtain ⟨_, _, _⟩ := h; omega)]
   simp [I, RVv, l0, t0, e76, e77, e78, e79, e80, t38, s38, iC, w1, w2, w3, w4, w5, w6, w7, z1, z1']
   exact fin0
  have z1' : 0 ≤ r.c := by omega
  by_cases z2 : 15 < r.c
  ·have z2' : ¬ r.c ≤ 15 := by omega
   rw [hp (fun h => by obtain ⟨_, _, _⟩ := h; omega)]
   simp [I, RVv, l0, t0, e76, e77, e78, e79, e80, t38, s38, iC, w1, w2, w3, w4, w5, w6, w7, z1, z1', z2, z2']
   exact fin0
  have z2' : r.c ≤ 15 := by omega
  by_cases z3 : r.c = r.a
  ·have z3' : r.a = r.c := z3.symm
   rw [hp (fun h => by obtain ⟨_, _, _⟩ := h; omega)]
   simp [I, RVv, l0, t0, e76, e77, e78, e79, e80, t38, s38, iC, w1, w2, w3, w4, w5, w6, w7, z1, z1', z2, z2', z3']
   exact fin0
  have z3' : ¬ r.a = r.c := fun h => z3 h.symm
  simp [I, RVv, l0, t0, e76, e77, e78, e79, e80, t38, s38, iC, w1, w2, w3, w4, w5, w6, w7, z1, z1', z2, z2', z3]
  exact round 3 [0] ⟨by omega, fun _ => hi.a (by omega), fun _ => hi.b (by omega), fun _ => ⟨by omega, by omega, z3⟩⟩ (by omega) (by simp [I, RVv]) (by simp [RVv]) (by simp) (by simp) (by simp)
 ·obtain ⟨qa1, qa2, qa3⟩ := hi.a (by omega)
  obtain ⟨qb1, qb2, qb3⟩ := hi.b (by omega)
  obtain ⟨qc1, qc2, qc3⟩ := hi.c (by omega)
  simp [I, RVv, l0, t0, e76, e77, e78, e79, e80, t38, s38, iC, w1, w2, w3, w4, w5, w6, w7]
  refine call0 (Rpair_ok r.f r.a r.b h1) (by simp [PVv, I]) ?_
  rintro y H' ⟨rfl, rfl⟩
  refine ⟨.inl (by simp), le_ok rfl, ?_⟩
  by_cases q6 : ofV r.f r.a r.b = true
  rotate_left
  ·have q6' : ofV r.f r.a r.b = false := by simpa using q6
   rw [q6']
   rw [show chkV r = 33 by exact chk_33 (fun h => q6 h.2.2.2.2.2.2.1)]
   simp [I, RVv, l0, t0, e76, e77, e78, e79, e80, t38, s38, iC, w1, w2, w3, w4, w5, w6, w7, q6']
   exact fin0
  rw [q6]
  simp [I, RVv, l0, t0, e76, e77, e78, e79, e80, t38, s38, iC, w1, w2, w3, w4, w5, w6, w7]
  refine call0 (Rpair_ok r.s r.b r.c h2) (by simp [PVv, I]) ?_
  rintro y H' ⟨rfl, rfl⟩
  refine ⟨.inl (by simp), le_ok rfl, ?_⟩
  by_cases q7 : ofV r.s r.b r.c = true
  rotate_left
  ·have q7' : ofV r.s r.b r.c = false := by simpa using q7
   rw [q7']
   rw [show chkV r = 33 by exact chk_33 (fun h => q7 h.2.2.2.2.2.2.2)]
   simp [I, RVv, l0, t0, e76, e77, e78, e79, e80, t38, s38, iC, w1, w2, w3, w4, w5, w6, w7, q7']
   exact fin0
  rw [q7]
  have hp : ¬ ¬ prtV r := fun h => h ⟨⟨qa1, qa2⟩, ⟨qb1, qb2⟩, ⟨qc1, qc2⟩, qa3, qb3, fun h => qc3 h.symm, q6, q7⟩
  by_cases z0 : r.fe < 0
  ·have z0n : ¬ 0 ≤ r.fe := by omega
   rw [show chkV r = 1 by unfold chkV; rw [if_neg hp, if_pos (.inl z0)]]
   simp [I, RVv, l0, t0, e76, e77, e78, e79, e80, t38, s38, iC, w1, w2, w3, w4, w5, w6, w7, z0, z0n]
   exact fin0
  have z0p : 0 ≤ r.fe := by omega
  by_cases z1 : 1125899906842624 < r.fe
  ·have z1n : ¬ r.fe ≤ 1125899906842624 := by omega
   rw [show chkV r = 1 by unfold chkV; rw [if_neg hp, if_pos (.inr (.inl z1))]]
   simp [I, RVv, l0, t0, e76, e77, e78, e79, e80, t38, s38, iC, w1, w2, w3, w4, w5, w6, w7, z0, z0p, z1, z1n]
   exact fin0
  have z1p : r.fe ≤ 1125899906842624 := by omega
  by_cases z2 : 1125899906842624 < r.am
  ·have z2n : ¬ r.am ≤ 1125899906842624 := by omega
   rw [show chkV r = 1 by unfold chkV; rw [if_neg hp, if_pos (.inr (.inr z2))]]
   simp [I, RVv, l0, t0, e76, e77, e78, e79, e80, t38, s38, iC, w1, w2, w3, w4, w5, w6, w7, z0, z0p, z1, z1p, z2, z2n]
   exact fin0
  have z2p : r.am ≤ 1125899906842624 := by omega
  by_cases z3 : r.am < 10
  ·have z3n : ¬ 10 ≤ r.am := by omega
   rw [show chkV r = 27 by unfold chkV; rw [if_neg hp, if_neg (by omega), if_pos (by omega)]]
   simp [I, RVv, l0, t0, e76, e77, e78, e79, e80, t38, s38, iC, w1, w2, w3, w4, w5, w6, w7, z0, z0p, z1, z1p, z2, z2p, z3, z3n]
   exact fin0
  have z3p : 10 ≤ r.am := by omega
  have wS : IntKind.i64.wrap (r.am - r.fe) = r.am - r.fe := wrap_i64 (by omega) (by omega)
  by_cases z4 : r.am - r.fe < 10
  ·have z4n : ¬ 10 ≤ r.am - r.fe := by omega
   rw [show chkV r = 27 by unfold chkV; rw [if_neg hp, if_neg (by omega), if_pos (by omega)]]
   simp [I, RVv, l0, t0, e76, e77, e78, e79, e80, t38, s38, iC, w1, w2, w3, w4, w5, w6, w7, z0, z0p, z1, z1p, z2, z2p, z3, z3p, wS, z4, z4n]
   exact fin0
  have z4p : 10 ≤ r.am - r.fe := by omega
  rw [show chkV r = 0 by unfold chkV; rw [if_neg hp, if_neg (by omega), if_neg (by omega)]]
  simp [I, RVv, l0, t0, e76, e77, e78, e79, e80, t38, s38, iC, w1, w2, w3, w4, w5, w6, w7, z0, z0p, z1, z1p, z2, z2p, z3, z3p, wS, z4, z4p]
  exact fin0
theorem opn_twoV : Opn BB Tryz.prog 26 (fun p : Int × Int => [FV.lit (.int .i64 p.1), .lit (.int .i64 p.2)]) (fun p => i64 p.1 ∧ i64 p.2) (fun _ => 1) :=
 (opn_array bok (e := 3) (es := 1) (n := 2) (by kernel_rfl) (by kernel_rfl) (by kernel_rfl) opn_i64).map (fun l => (l[0]?.getD 0, l[1]?.getD 0)) (by
  rintro l ⟨_, h⟩
  match l, h with
  | [a, b], _ => simp) (by
  rintro l ⟨h1, h⟩
  match l, h, h1 with
  | [a, b], _, h1 => exact ⟨h1 a (by simp), h1 b (by simp)⟩) (fun _ _ => by omega)
theorem opn_threeV : Opn BB Tryz.prog 29 (fun p : Int × Int × Int => [FV.lit (.int .i64 p.1), .lit (.int .i64 p.2.1), .lit (.int .i64 p.2.2)]) (fun p => i64 p.1 ∧ i64 p.2.1 ∧ i64 p.2.2) (fun _ => 1) :=
 (opn_array bok (e := 3) (es := 1) (n := 3) (by kernel_rfl) (by kernel_rfl) (by kernel_rfl) opn_i64).map (fun l => (l[0]?.getD 0, l[1]?.getD 0, l[2]?.getD 0)) (by
  rintro l ⟨_, h⟩
  match l, h with
  | [a, b, c], _ => simp) (by
  rintro l ⟨h1, h⟩
  match l, h, h1 with
  | [a, b, c], _, h1 => exact ⟨h1 a (by simp), h1 b (by simp), h1 c (by simp)⟩) (fun _ _ => by omega)
theorem opn_outV : Opn BB Tryz.prog 25 (fun p : List UInt8 × Int => hf p.1 ++ [FV.lit (.int .i64 p.2)]) (fun p => p.1.length = 32 ∧ i64 p.2) (fun _ => 1) :=
 (opn_struct (tot := 33) bok Tryz.underlying25 (by kernel_rfl)
  (opnFs_cons bok (n := 32) (tot := 1) opn_hash rfl (by kernel_rfl) (opnFs_cons bok (n := 1) (tot := 0) opn_i64 rfl (by kernel_rfl) opnFs_nil))).map
  (fun p => (p.1, p.2.1)) (by rintro ⟨a, b, u⟩ _; simp) (by rintro ⟨a, b, u⟩ h; exact ⟨h.1, h.2.1⟩) (by rintro ⟨a, b, u⟩ _; simp)
theorem opn_prm : Opn BB Tryz.prog 28 prmF Prm.ok (fun _ => 1) :=
 (opn_struct (tot := 38) bok Tryz.underlying28 (by kernel_rfl)
  (opnFs_cons bok (n := 33) (tot := 5) opn_outV rfl (by kernel_rfl) (opnFs_cons bok (n := 1) (tot := 4) opn_i64 rfl (by kernel_rfl)
   (opnFs_cons bok (n := 2) (tot := 2) opn_twoV rfl (by kernel_rfl) (opnFs_cons bok (n := 1) (tot := 1) opn_i64 rfl (by kernel_rfl)
   (opnFs_cons bok (n := 1) (tot := 0) opn_i64 rfl (by kernel_rfl) opnFs_nil)))))).map
  (fun p => (⟨p.1.1, p.1.2, p.2.1, p.2.2.1.1, p.2.2.1.2, p.2.2.2.1, p.2.2.2.2.1⟩ : Prm)) (by rintro ⟨⟨a, a'⟩, b, ⟨c, c'⟩, d, e, u⟩ _; simp [prmF, iF]) (by rintro ⟨⟨a, a'⟩, b, ⟨c, c'⟩, d, e, u⟩ h; exact ⟨h.1.1, h.1.2, h.2.1, h.2.2.1.1, h.2.2.1.2, h.2.2.2.1, h.2.2.2.2.1⟩) (by rintro ⟨⟨a, a'⟩, b, ⟨c, c'⟩, d, e, u⟩ _; simp)
theorem opn_rte : Opn BB Tryz.prog 31 rteF Rte.ok (fun _ => 1) :=
 (opn_struct (tot := 81) bok Tryz.underlying31 (by kernel_rfl)
  (opnFs_cons bok (n := 38) (tot := 43) opn_prm rfl (by kernel_rfl) (opnFs_cons bok (n := 38) (tot := 5) opn_prm rfl (by kernel_rfl)
   (opnFs_cons bok (n := 3) (tot := 2) opn_threeV rfl (by kernel_rfl) (opnFs_cons bok (n := 1) (tot := 1) opn_i64 rfl (by kernel_rfl)
   (opnFs_cons bok (n := 1) (tot := 0) opn_i64 rfl (by kernel_rfl) opnFs_nil)))))).map
  (fun p => (⟨p.1, p.2.1, p.2.2.1.1, p.2.2.1.2.1, p.2.2.1.2.2, p.2.2.2.1, p.2.2.2.2.1⟩ : Rte)) (by rintro ⟨a, b, ⟨c, c', c''⟩, d, e, u⟩ _; simp [rteF, iF]) (by rintro ⟨a, b, ⟨c, c', c''⟩, d, e, u⟩ h; exact ⟨h.1, h.2.1, h.2.2.1.1, h.2.2.1.2.1, h.2.2.1.2.2, h.2.2.2.1, h.2.2.2.2.1⟩) (by rintro ⟨a, b, ⟨c, c', c''⟩, d, e, u⟩ _; simp)
def zRteV : Value := .agg (Array.replicate 32 (.int .u8 0) ++ #[.int .i64 0, .int .i64 0, .int .i64 0, .int .i64 0, .int .i64 0, .int .i64 0] ++ Array.replicate 32 (.int .u8 0) ++ #[.int .i64 0, .int .i64 0, .int .i64 0, .int .i64 0, .int .i64 0, .int .i64 0, .int .i64 0, .int .i64 0, .int .i64 0, .int .i64 0, .int .i64 0])
def zPrmD {H : Type} : DataW H := .agg [.agg [.agg (List.replicate 32 (.lit (.int .u8 0))), .lit (.int .i64 0)], .lit (.int .i64 0), .agg [.lit (.int .i64 0), .lit (.int .i64 0)], .lit (.int .i64 0), .lit (.int .i64 0)]
def ylqm : UL | _ => [xW 0 3 44 0, xW 1 4 40 1, xW 2 5 40 2, xQ 3 6 (.alloc 71 [xZ, xS, xS]), xQ 4 7 (.mov (.k .nilIface))]
def ylqp : UL | _ => [xQ 0 15 (.build [xZ, xS, xS] []), xM 1 16 8, xN 2 (.fz (.sto 3 (.t 6) (.t 15))), xM 3 7 16]
def ylqr : UL | _ => [xN 30 (.sto 3 (.t 9) (.t 45))]
def ylqs : UL | _ => ⟨14, (some 31), none, (.call 36 [.t 30]), [0, 1, 2, 3, 4, 5, 6, 16, 17, 18, 19, 20, 21, 22, 23, 24, 29]⟩ :: xQ 15 32 (.build [xZ, xS] [(0, 1, .t 23), (1, 1, .t 31)]) :: ⟨25, (some 42), none, (.call 36 [.t 41]), [0, 1, 2, 3, 4, 5, 6, 16, 17, 18, 19, 20, 29, 15]⟩ :: xQ 26 43 (.build [xZ, xS] [(0, 1, .t 37), (1, 1, .t 42)]) :: xQ 27 44 (.bsl 2 [xZ, xS] 2 [(0, .t 32), (1, .t 43)]) :: xQ 28 45 (.build [xZ, xS, xS] [(1, 1, .t 21), (2, 1, .t 44)]) :: hid ylqr
def ylqt : UL | _ => xb 20 37 .sub 34 36 :: xF 21 38 76 3 :: xQ 22 39 (.iad 3 1 (.t 38) (xK 1)) :: xL 23 40 39 :: xQ 24 41 (.bsl 1 [xZ] 1 [(0, .t 40)]) :: xQ 29 9 (.alloc 71 [xZ, xS, xS]) :: hid ylqs
def ylqu : UL | _ => xL 12 29 28 :: xQ 13 30 (.bsl 1 [xZ] 2 [(0, .t 26), (1, .t 29)]) :: xF 16 33 79 3 :: xL 17 34 33 :: xF 18 35 80 3 :: xL 19 36 35 :: hid ylqt
def ylqv : UL | _ => xL 6 23 22 :: xF 7 24 76 3 :: xQ 8 25 (.iad 3 1 (.t 24) (xK 0)) :: xL 9 26 25 :: xF 10 27 76 3 :: xQ 11 28 (.iad 3 1 (.t 27) (xK 2)) :: hid ylqu
def ylqw : UL | _ => xD 0 17 33 4 :: xQ 1 18 (.build (zU8 ++ [xZ, xZ, xS]) [(0, 33, .t 17)]) :: xD 2 19 33 5 :: xQ 3 20 (.build (zU8 ++ [xZ, xZ, xS]) [(0, 33, .t 19)]) :: xQ 4 21 (.bsl 35 (zU8 ++ [xZ, xZ, xS]) 2 [(0, .t 18), (1, .t 20)]) :: xF 5 22 79 3 :: hid ylqv
def ylqz : UL | _ => [xQ 0 50 (.build [xZ, xS, xS] []), xM 1 51 10, xN 2 (.fz (.sto 3 (.t 6) (.t 50))), xM 3 7 51]
def ylr1 : UL | _ => [xD 0 52 3 9, xN 1 (.fz (.sto 3 (.t 6) (.t 52))), xQ 2 7 (.mov (.k .nilIface))]
def ybr2 : UB | _ => .seq (.seq (reg0 [xD 0 46 3 9, xO 1 47 (.call 57 [.t 46]), xM 2 10 47] 3) (.seq (reg0 [xM 0 48 10, xQ 1 49 (.eqi true (.t 48))] 2) (.cond (.t 49) (.seq (reg0 (hid ylqz) 4) .ret) .skip))) (.seq (reg0 (hid ylr1) 3) .ret)
def ybr3 : UB | _ => .seq (.seq (reg0 [xD 0 11 81 3, xO 1 12 (.call 15 [.t 11]), xM 2 8 12] 3) (.seq (reg0 [xM 0 13 8, xQ 1 14 (.eqi true (.t 13))] 2) (.cond (.t 14) (.seq (reg0 (hid ylqp) 4) .ret) .skip))) (.seq (reg1 (hid ylqw) 31) (hid ybr2))
def ybr4 : UB | _ => .seq (reg0 (hid ylqm) 5) (hid ybr3)
attribute [simp] ylqm ylqp ylqr ylqs ylqt ylqu ylqv ylqw ylqz ylr1 ybr2 ybr3 ybr4
def c_VOff : EB × List QOp × Nat := ((hid ybr4), [(.lda 3 (.t 6)), (.mov (.t 7))], 53)
theorem k_VOff : cfun Tryz.prog 21 = some c_VOff := by kernel_rfl
def ylr5 : UL | _ => [xW 0 3 31 0, xW 1 4 25 1, xW 2 5 25 2, xQ 3 6 (.alloc 77 [xZ, xS, xS]), xC 4 7 0]
def ylr8 : UL | _ => [xQ 0 14 (.build [xZ, xS, xS] []), xM 1 15 8, xN 2 (.fz (.sto 3 (.t 6) (.t 14))), xM 3 7 15]
def ylra : UL | _ => [xQ 6 9 (.alloc 77 [xZ, xS, xS]), xN 7 (.fz (.sto 3 (.t 9) (.t 21)))]
def ylrb : UL | _ => xD 0 16 33 4 :: xQ 1 17 (.build (zU8 ++ [xZ, xZ, xS]) [(0, 33, .t 16)]) :: xD 2 18 33 5 :: xQ 3 19 (.build (zU8 ++ [xZ, xZ, xS]) [(0, 33, .t 18)]) :: xO 4 20 (.fz (.q (.bsl 35 (zU8 ++ [xZ, xZ, xS]) 2 [(0, .t 17), (1, .t 19)]))) :: xQ 5 21 (.build [xZ, xS, xS] [(1, 1, .t 20)]) :: hid ylra
def ylrc : UL | _ => [xQ 12 34 (.build [xZ, xS] [(0, 1, .t 25), (1, 1, .t 33)]), ⟨13, (some 35), none, (.fz (.q (.bsl 2 [xZ, xS] 1 [(0, .t 34)]))), [0, 1]⟩, xO 14 36 (.app 155 2 32 (.t 23) (.t 35)), xF 15 37 2 9, xN 16 (.fz (.sto 1 (.t 37) (.t 36)))]
def ylrd : UL | _ => xL 6 28 27 :: xF 7 29 76 3 :: xQ 8 30 (.iad 3 1 (.t 29) (xK 2)) :: xL 9 31 30 :: xQ 10 32 (.bsl 1 [xZ] 2 [(0, .t 28), (1, .t 31)]) :: ⟨11, (some 33), none, (.call 58 [.t 32]), [0, 1, 2, 3]⟩ :: hid ylrc
def ylre : UL | _ => xF 0 22 2 9 :: xL 1 23 22 :: xF 2 24 79 3 :: xL 3 25 24 :: xF 4 26 76 3 :: xQ 5 27 (.iad 3 1 (.t 26) (xK 0)) :: hid ylrd
def ylrf : UL | _ => [xQ 12 50 (.build [xZ, xS] [(0, 1, .t 44), (1, 1, .t 49)]), ⟨13, (some 51), none, (.fz (.q (.bsl 2 [xZ, xS] 1 [(0, .t 50)]))), [0, 1]⟩, xO 14 52 (.app 155 2 32 (.t 39) (.t 51)), xF 15 53 2 9, xN 16 (.fz (.sto 1 (.t 53) (.t 52)))]
def ylrg : UL | _ => xb 6 44 .sub 41 43 :: xF 7 45 76 3 :: xQ 8 46 (.iad 3 1 (.t 45) (xK 1)) :: xL 9 47 46 :: xQ 10 48 (.bsl 1 [xZ] 1 [(0, .t 47)]) :: ⟨11, (some 49), none, (.call 58 [.t 48]), [0, 1, 2, 3, 4, 5, 6]⟩ :: hid ylrf
def ylrh : UL | _ => xF 0 38 2 9 :: xL 1 39 38 :: xF 2 40 79 3 :: xL 3 41 40 :: xF 4 42 80 3 :: xL 5 43 42 :: hid ylrg
def ylrk : UL | _ => [xQ 0 58 (.build [xZ, xS, xS] []), xM 1 59 8, xN 2 (.fz (.sto 3 (.t 6) (.t 58))), xM 3 7 59]
def ybrn : UB | _ => .seq (reg0 [xD 0 54 3 9, xO 1 55 (.call 59 [.t 54]), xM 2 8 55] 3) (.seq (.seq (reg0 [xM 0 56 8, xc 1 57 .neq 56 0] 2) (.cond (.t 57) (.seq (reg0 (hid ylrk) 4) .ret) .skip)) (.seq (reg0 [xD 0 60 3 9, xN 1 (.fz (.sto 3 (.t 6) (.t 60))), xC 2 7 0] 3) .ret))
def ybro : UB | _ => .seq (reg1 (hid ylre) 17) (.seq (reg1 (hid ylrh) 17) (hid ybrn))
def ybrp : UB | _ => .seq (reg0 [xD 0 10 81 3, xO 1 11 (.call 16 [.t 10]), xM 2 8 11] 3) (.seq (.seq (reg0 [xM 0 12 8, xc 1 13 .neq 12 0] 2) (.cond (.t 13) (.seq (reg0 (hid ylr8) 4) .ret) .skip)) (.seq (reg0 (hid ylrb) 8) (hid ybro)))
def ybrq : UB | _ => .seq (reg0 (hid ylr5) 5) (hid ybrp)
attribute [simp] ylr5 ylr8 ylra ylrb ylrc ylrd ylre ylrf ylrg ylrh ylrk ybrn ybro ybrp ybrq
def c_ROff : EB × List QOp × Nat := ((hid ybrq), [(.lda 3 (.t 6)), (.mov (.t 7))], 61)
theorem k_ROff : cfun Tryz.prog 22 = some c_ROff := by kernel_rfl
theorem cAll_ok' (ks : List Int) (h : KeysOK ks) : ECalls Tryz.prog 58 [IL ks] [] fun y H' => H' = [] ∧ y = CNv (allB ks) := by
 obtain ⟨h1, h2, h3, h4, h5, h6⟩ := h
 have := cAll_ok ks h5 (by omega)
 rw [h6] at this
 exact this
abbrev Pt := List UInt8 × Int
def Ptok (x : Pt) : Prop := x.1.length = 32 ∧ i64 x.2
def ptC (x : Pt) : List EC := hc x.1 ++ [iC x.2]
def ptF' (x : Pt) : List FV := hf x.1 ++ [iF x.2]
def PtV (x : Pt) : EV := .v (.agg (ptC x))
theorem ptC_len {x : Pt} (h : x.1.length = 32) : (ptC x).length = 33 := by simp [ptC, hc_len, h]
theorem ptC_take {x : Pt} (h : x.1.length = 32) : (ptC x).take 33 = ptC x := List.tkL (by rw [ptC_len h]; omega)
theorem ptF_fz (x : Pt) : (ptF' x).map EC.fz = ptC x := by simp [ptF', ptC, iF, iC]
@[simp] theorem conAll_ptC (H : Nat → Option EO) (ids : List Nat) (p : Pt) : conAll H ids (ptC p) = some (ptC p) := by rw [← ptF_fz]; exact conAll_mp H ids _
@[simp] theorem strAll_ptC (ids : List Nat) (p : Pt) : strAll ids (ptC p) = some (ptC p) := by rw [← ptF_fz]; exact strAll_mp ids _
@[simp] theorem frzAll_ptC (p : Pt) : frzAll (ptC p) = some (ptF' p) := by rw [← ptF_fz]; exact frzAll_mp _
@[simp] theorem refs_ptC (p : Pt) : (ptC p).flatMap refsC = [] := by rw [← ptF_fz]; exact refs_mp _
@[simp] theorem fz_ptC (ids : List Nat) (p : Pt) : (ptC p).flatMap (fzC ids) = [] := by rw [← ptF_fz]; exact fz_mp ids _
@[simp] theorem ren_ptC (g : Nat → Nat) (p : Pt) : (ptC p).map (renC g) = ptC p := by rw [← ptF_fz]; exact ren_mp g _
theorem rows_mpO : ∀ l : List FV, (l.map EC.fz).flatMap rowsE = []
 | [] => rfl
 | a :: r => by simp only [List.map_cons, List.flatMap_cons, rows_mpO r]; rfl
theorem fzM_mpO (H : Nat → Option EO) (d : List Nat) : ∀ l : List FV, (l.map EC.fz).map (fzM H d) = l.map EC.fz
 | [] => rfl
 | a :: r => by rw [List.map_cons, List.map_cons, fzM_mpO H d r]; rfl
@[simp] theorem rows_ptC (x : Pt) : (ptC x).flatMap rowsE = [] := by rw [← ptF_fz]; exact rows_mpO _
@[simp] theorem fzM_ptC (H : Nat → Option EO) (d : List Nat) (x : Pt) : (ptC x).map (fzM H d) = ptC x := by rw [← ptF_fz]; exact fzM_mpO H d _
def offT (r : Rte) (x y : Pt) : Txn := ⟨0, [⟨x.1, x.2, 0, []⟩, ⟨y.1, y.2, 0, []⟩], [⟨r.am, allB [r.a, r.c]⟩, ⟨r.am - r.fe, allB [r.b]⟩]⟩
def offS (r : Rte) (x y : Pt) : Txn × Nat := if chkV r ≠ 0 then (zTx, chkV r) else donT (offT r x y)
theorem chk_0 {r : Rte} (h : chkV r = 0) : r.a ≠ r.c ∧ 0 ≤ r.fe ∧ r.fe ≤ 1125899906842624 ∧ r.am ≤ 1125899906842624 ∧ 10 + r.fe ≤ r.am := by
 unfold chkV at h
 split at h
 ·simp at h
 rename_i h1
 split at h
 ·simp at h
 split at h
 ·simp at h
 refine ⟨(Classical.not_not.1 h1).2.2.2.2.2.1, by omega, by omega, by omega, by omega⟩
theorem frz_ptA (x : Pt) (r : List EC) : frzAll (ptC x ++ r) = (frzAll r).map (ptF' x ++ ·) := by
 have h1 : ptC x = hc x.1 ++ [iC x.2] := rfl
 rw [h1, List.append_assoc, frzAll_hc]
 simp [frzAll, iC, ptF', iF]
 cases h : frzAll r <;> simp
theorem ptF_len {x : Pt} (h : x.1.length = 32) : (ptF' x).length = 33 := by simp [ptF', h]
theorem insN2 {a b : Int} (ha : i64 a) (hb : i64 b) : ∀ k ∈ insN [a, b], i64 k := by
 rw [ins_two]
 intro k hk
 split at hk <;> simp at hk <;> rcases hk with rfl | rfl <;> assumption
theorem offT_ok {r : Rte} {x y : Pt} (hr : r.ok) (hx : Ptok x) (hy : Ptok y) (h : chkV r = 0) : (offT r x y).ok := by
 obtain ⟨_, _, ra, rb, rc, rm, rf⟩ := id hr
 obtain ⟨k1, k2, k3, k4, k5⟩ := chk_0 h
 refine ⟨by simp [offT, i64], ?_, ?_, by simp [offT], by simp [offT]⟩
 ·intro q hq
  simp [offT] at hq
  rcases hq with rfl | rfl
  ·exact ⟨hx.1, hx.2, by simp [i64], by simp⟩
  ·exact ⟨hy.1, hy.2, by simp [i64], by simp⟩
 ·intro q hq
  simp [offT] at hq
  rcases hq with rfl | rfl
  ·refine ⟨rm, ?_, by simp [allB]⟩
   intro b hb
   simp [allB] at hb
   subst hb
   exact ⟨insN2 ra rc, rfl, by simp [i64], by simp [i64], by simp [insN_len]⟩
  ·refine ⟨by show i64 (r.am - r.fe); unfold i64; omega, ?_, by simp [allB]⟩
   intro b hb
   simp [allB] at hb
   subst hb
   rw [(keys_one _).2]
   exact ⟨by intro k hk; simp at hk; subst hk; exact rb, rfl, by simp [i64], by simp [i64], by simp⟩
theorem off_ins (r : Rte) (x y : Pt) : (inpv (offT r x y).ins).map (·.map gN) = [ptF' x ++ [iF 0, .lit (.slice none 0 0)], ptF' y ++ [iF 0, .lit (.slice none 0 0)]] := by
 have h : ∀ l : List UInt8, (hf l).map gN = hf l := fun l => by have := hf_gN l []; simpa using this
 simp [offT, inpv, inpF, ptF', h, gN, iF]
set_option maxRecDepth 8000 in
theorem VOff_ok (r : Rte) (x y : Pt) (hr : r.ok) (hx : Ptok x) (hy : Ptok y) : ECalls Tryz.prog 21 [RVv r, PtV x, PtV y] [] fun z H' => H' = [] ∧ z = .tup [.agg (txC (offS r x y).1), .c (.fz (.lit (errV (offS r x y).2)))] := by
 obtain ⟨⟨h1, _⟩, ⟨h2, _⟩, _⟩ := id hr
 obtain ⟨x1, x2⟩ := id hx
 obtain ⟨y1, y2⟩ := id hy
 have l0 := rteC_len h1 h2
 have t0 := rt_take h1 h2
 have lx := ptC_len x1
 have ly := ptC_len y1
 have tx := ptC_take x1
 have ty := ptC_take y1
 have g76 := idx_of (rt_76 h1 h2) (by omega)
 have g77 := idx_of (rt_77 h1 h2) (by omega)
 have g78 := idx_of (rt_78 h1 h2) (by omega)
 have g79 := idx_of (rt_79 h1 h2) (by omega)
 have g80 := idx_of (rt_80 h1 h2) (by omega)
 refine ecalls k_VOff ?_
 simp [c_VOff, RVv, PtV, l0, t0, lx, ly, -errV_0]
 refine call0 (VCheck_ok r hr) (by simp [RVv]) ?_
 rintro z H' ⟨rfl, rfl⟩
 refine ⟨.inl (by simp), le_ok rfl, ?_⟩
 by_cases c : chkV r = 0
 rotate_left
 ·rw [show offS r x y = (zTx, chkV r) from if_pos c]
  simp [c, -errV_0]
  refine finW _ (weak_nlB (o := 48) (k := 1) 35 rfl rfl) (finW _ (weak_nlB (o := 48) (k := 2) 2 rfl rfl) ?_)
  exact fin0
 obtain ⟨k1, k2, k3, k4, k5⟩ := chk_0 c
 have w1 : IntKind.i64.wrap (r.am - r.fe) = r.am - r.fe := wrap_i64 (by omega) (by omega)
 rw [show offS r x y = donT (offT r x y) from if_neg (by simpa using c)]
 simp [c, l0, t0, lx, ly, tx, ty, g76, g77, g78, g79, g80, iC, w1, drop33i, frz_ptA, ptF_len x1, ptF_len y1, -errV_0]
 refine call0 (PAll_ok [r.a, r.c] (keys_two k1)) (by simp [IL, intv]) ?_
 rintro z H' ⟨rfl, rfl⟩
 refine ⟨.inl (by simp [CNv]), le_ok rfl, ?_⟩
 simp [CNv, c, l0, t0, lx, ly, tx, ty, g76, g77, g78, g79, g80, iC, w1, drop33i, frz_ptA, ptF_len x1, ptF_len y1, -errV_0]
 refine call0 (PAll_ok [r.b] (keys_one _).1) (by simp [IL, intv]) ?_
 rintro z H' ⟨rfl, rfl⟩
 refine ⟨.inl (by simp [CNv]), le_ok rfl, ?_⟩
 simp [CNv, c, l0, t0, lx, ly, tx, ty, g76, g77, g78, g79, g80, iC, w1, drop33i, frz_ptA, ptF_len x1, ptF_len y1, -errV_0]
 have hC := TxCheck_ok (offT r x y) (offT_ok hr hx hy c)
 have hC' : ECalls Tryz.prog 57 [.v (.agg [iC 0, .fz (.sl 35 [ptF' x ++ [iF 0, .lit (.slice none 0 0)], ptF' y ++ [iF 0, .lit (.slice none 0 0)]]), .fz (.sl 2 (outv (offT r x y).outs))])] [] (fun z H' => H' = [] ∧ z = .lit (errV (chkT (offT r x y)))) := by
  have := ecalls_nlG hC
  rw [off_ins] at this
  exact this
 refine call0 hC' (by simp [iC, iF, offT, outv, outF]) ?_
 rintro z H' ⟨rfl, rfl⟩
 refine ⟨.inl (by simp), le_ok rfl, ?_⟩
 by_cases c2 : chkT (offT r x y) = 0
 rotate_left
 ·rw [show donT (offT r x y) = (zTx, chkT (offT r x y)) from if_pos c2]
  simp [c2, -errV_0]
  refine finW _ (weak_nlB (o := 48) (k := 1) 35 rfl rfl) (finW _ (weak_nlB (o := 48) (k := 2) 2 rfl rfl) ?_)
  exact fin0
 rw [show donT (offT r x y) = (offT r x y, 0) from if_neg (by simpa using c2)]
 simp [c2, -errV_0]
 refine finW _ (weak_nlG (o := 48) (k := 1) (inpv (offT r x y).ins) rfl (by rw [off_ins]; rfl)) ?_
 exact fin0
set_option maxRecDepth 8000 in
theorem ROff_ok (r : Rte) (x y : Pt) (hr : r.ok) (hx : Ptok x) (hy : Ptok y) : ECalls Tryz.prog 22 [RVv r, PtV x, PtV y] [] fun z H' => H' = [] ∧ z = .tup [.agg (txC (offS r x y).1), .c (.fz (.lit (.int .i64 (offS r x y).2)))] := by
 obtain ⟨⟨h1, _⟩, ⟨h2, _⟩, _⟩ := id hr
 obtain ⟨x1, x2⟩ := id hx
 obtain ⟨y1, y2⟩ := id hy
 have l0 := rteC_len h1 h2
 have t0 := rt_take h1 h2
 have lx := ptC_len x1
 have ly := ptC_len y1
 have tx := ptC_take x1
 have ty := ptC_take y1
 have g76 := idx_of (rt_76 h1 h2) (by omega)
 have g77 := idx_of (rt_77 h1 h2) (by omega)
 have g78 := idx_of (rt_78 h1 h2) (by omega)
 have g79 := idx_of (rt_79 h1 h2) (by omega)
 have g80 := idx_of (rt_80 h1 h2) (by omega)
 refine ecalls k_ROff ?_
 simp [c_ROff, RVv, PtV, l0, t0, lx, ly]
 refine call0 (RCheckV_ok r hr) (by simp [RVv]) ?_
 rintro z H' ⟨rfl, rfl⟩
 refine ⟨.inl (by simp [I]), le_ok rfl, ?_⟩
 by_cases c : chkV r = 0
 rotate_left
 ·rw [show offS r x y = (zTx, chkV r) from if_pos c]
  simp [c, I]
  refine finW _ (weak_nlB (o := 48) (k := 1) 35 rfl rfl) (finW _ (weak_nlB (o := 48) (k := 2) 2 rfl rfl) ?_)
  exact fin0
 obtain ⟨k1, k2, k3, k4, k5⟩ := chk_0 c
 have w1 : IntKind.i64.wrap (r.am - r.fe) = r.am - r.fe := wrap_i64 (by omega) (by omega)
 rw [show offS r x y = donT (offT r x y) from if_neg (by simpa using c)]
 simp [c, l0, t0, lx, ly, tx, ty, g76, g77, g78, g79, g80, iC, I, w1, drop33i, frz_ptA, ptF_len x1, ptF_len y1]
 refine call0 (cAll_ok' [r.a, r.c] (keys_two k1)) (by simp [IL, intv]) ?_
 rintro z H' ⟨rfl, rfl⟩
 refine ⟨.inl (by simp [CNv]), le_ok rfl, ?_⟩
 simp [CNv, c, l0, t0, lx, ly, tx, ty, g76, g77, g78, g79, g80, iC, I, w1, drop33i, frz_ptA, ptF_len x1, ptF_len y1]
 refine call0 (cAll_ok' [r.b] (keys_one _).1) (by simp [IL, intv]) ?_
 rintro z H' ⟨rfl, rfl⟩
 refine ⟨.inl (by simp [CNv]), le_ok rfl, ?_⟩
 simp [CNv, c, l0, t0, lx, ly, tx, ty, g76, g77, g78, g79, g80, iC, I, w1, drop33i, frz_ptA, ptF_len x1, ptF_len y1]
 have hC := RTxCheck_ok (offT r x y) (offT_ok hr hx hy c)
 have hC' : ECalls Tryz.prog 59 [.v (.agg [iC 0, .fz (.sl 35 [ptF' x ++ [iF 0, .lit (.slice none 0 0)], ptF' y ++ [iF 0, .lit (.slice none 0 0)]]), .fz (.sl 2 (outv (offT r x y).outs))])] [] (fun z H' => H' = [] ∧ z = I .i64 (chkT (offT r x y))) := by
  have := ecalls_nlG hC
  rw [off_ins] at this
  exact this
 refine call0 hC' (by simp [iC, iF, offT, outv, outF]) ?_
 rintro z H' ⟨rfl, rfl⟩
 refine ⟨.inr ⟨rfl, by simp [I]⟩, le_ok rfl, ?_⟩
 by_cases c2 : chkT (offT r x y) = 0
 rotate_left
 ·rw [show donT (offT r x y) = (zTx, chkT (offT r x y)) from if_pos c2]
  simp [c2, I]
  refine finW _ (weak_nlB (o := 48) (k := 1) 35 rfl rfl) (finW _ (weak_nlB (o := 48) (k := 2) 2 rfl rfl) ?_)
  exact fin0
 rw [show donT (offT r x y) = (offT r x y, 0) from if_neg (by simpa using c2)]
 simp [c2, I]
 refine finW _ (weak_nlG (o := 48) (k := 1) (inpv (offT r x y).ins) rfl (by rw [off_ins]; rfl)) ?_
 exact fin0
theorem num_e (e : Nat) : ECalls Tryz.prog 13 [.lit (errV e)] [] fun y H' => H' = [] ∧ y = I .i64 e := by
 have h := num_ok (e : Int)
 have e1 : EN (e : Int) = .lit (errV e) := by
  unfold EN errV
  by_cases h : e = 0
  ·subst h; rfl
  ·rw [if_neg (by omega), if_neg h]
 rw [e1] at h
 exact h
def ylrr : UL | _ => [xW 0 3 31 0, xW 1 4 25 1, xW 2 5 25 2, xQ 3 6 (.mov (.k (.bool false)))]
def ybrs : UB | _ => reg0 (hid ylrr) 4
def ylrt : UL | _ => [xM 5 11 16, xX 6 17 0 11, xX 7 18 1 11, ⟨9, none, none, (.fz (.sto 3 (.t 7) (.t 17))), [7]⟩, xM 10 8 18]
def ylru : UL | _ => xD 0 12 81 3 :: xD 2 14 33 4 :: xD 3 15 33 5 :: xQ 8 7 (.alloc 71 [xZ, xS, xS]) :: ⟨1, (some 13), none, (.call 9 [.t 12]), [2, 3, 8]⟩ :: ⟨4, (some 16), none, (.call 21 [.t 13, .t 14, .t 15]), [8]⟩ :: hid ylrt
def ylrv : UL | _ => [xX 6 25 1 19, xQ 7 9 (.alloc 77 [xZ, xS, xS]), xN 8 (.fz (.sto 3 (.t 9) (.t 24))), xM 9 10 25]
def ylrw : UL | _ => xD 0 20 81 3 :: xD 1 21 33 4 :: xD 2 22 33 5 :: xO 3 23 (.call 22 [.t 20, .t 21, .t 22]) :: xM 4 19 23 :: xX 5 24 0 19 :: hid ylrv
def ylrx : UL | _ => [xR 12 38 33 37, xM 13 39 38, ⟨14, (some 40), (some (39, true)), (.call 8 []), []⟩, xR 15 41 39 40, xM 16 6 41]
def ylry : UL | _ => xb 6 32 .eql 28 31 :: xM 7 33 32 :: yM 8 34 33 true 8 :: yM 10 36 33 true 10 :: ⟨9, (some 35), (some (33, true)), (.call 13 [.t 34]), [10]⟩ :: xG 11 37 33 true (.bin .eql (.t 35) (.t 36)) :: hid ylrx
attribute [simp] ylrr ybrs ylrt ylru ylrv ylrw ylrx ylry
def zPtD {H : Type} : DataW H := .agg [.agg (List.replicate 32 (.lit (.int .u8 0))), .lit (.int .i64 0)]
theorem bytesB_nil : (bytesB []).length = 2 := rfl
theorem cnd1_len (a : List Int) (h : a.length ≤ 16) : (cndB [⟨a, hz, 0, 0⟩]).length ≤ 300 := by
 have h1 := usB_len a
 have h2 := uB_len 1
 have h3 := uB_len (a.length : Int)
 have h4 := uB_len 0
 have h5 : hz.length = 32 := rfl
 generalize hz = zz at h5 ⊢
 simp [cndB, brsB, braB, h5]
 omega
theorem offT_len (r : Rte) (x y : Pt) (hx : Ptok x) (hy : Ptok y) : (encT (offT r x y)).length ≤ 4000 := by
 have h1 := uB_len 0
 have h2 := uB_len 2
 have h3 := uB_len x.2
 have h4 := uB_len y.2
 have h5 := uB_len r.am
 have h6 := uB_len (r.am - r.fe)
 have c1 := cnd1_len (insN [r.a, r.c]) (by simp [insN_len])
 have c2 := cnd1_len (insN [r.b]) (by simp [insN_len])
 have x1 := hx.1
 have y1 := hy.1
 have b0 := bytesB_nil
 simp [encT, mdB, hdB, offT, insB, ousB, inpB, oupB, allB]
 omega
theorem zTx_len : (encT zTx).length ≤ 4000 := by decide +kernel
theorem zTx_ok : zTx.ok := by simp [zTx, Txn.ok, i64]
theorem offS_small (r : Rte) (x y : Pt) (hr : r.ok) (hx : Ptok x) (hy : Ptok y) : (offS r x y).1.ok ∧ (∀ q ∈ (offS r x y).1.ins, q.sec.length ≤ 10000000) ∧ (encT (offS r x y).1).length ≤ 400000000 := by
 have hz : zTx.ok ∧ (∀ q ∈ zTx.ins, q.sec.length ≤ 10000000) ∧ (encT zTx).length ≤ 400000000 := ⟨zTx_ok, by simp [zTx], by have := zTx_len; omega⟩
 unfold offS
 split
 ·exact hz
 rename_i c
 unfold donT
 split
 ·exact hz
 ·refine ⟨offT_ok hr hx hy (Classical.not_not.1 c), ?_, by have := offT_len r x y hx hy; show (encT (offT r x y)).length ≤ _; omega⟩
  intro q hq
  simp [offT] at hq
  rcases hq with rfl | rfl <;> simp
end Go.Proofs.YtejjhgdnmknejaaGreatDoor
