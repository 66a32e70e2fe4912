import Derived.Test.YtflcfdeanneoeaaGreatDoorAll12
import Derived.Test.YtflcfdeanneoeaaGreatDoorAll14
set_option maxHeartbeats 64000000
namespace Go.Proofs.YtflcfdeanneoeaaGreatDoor
open Go Go.EW
set_option linter.unusedSimpArgs false
set_option linter.unusedVariables false
@[simp] def ylea : UL | _ => [xQ 0 2 (.mov (.k (.bool false)))]
@[simp] def yleb : UL | _ => [xM 6 2 8]
@[simp] def ylec : UL | _ => xM 0 3 0 :: xQ 1 4 (.bin .geq (.t 3) (xK 0)) :: xM 2 5 4 :: xG 3 6 5 true (.mov (.t 0)) :: xG 4 7 5 true (.bin .lss (.t 6) (xK 16)) :: xQ 5 8 (.pick (.t 5) (.t 7) (.k (.bool false))) :: hid yleb
@[simp] def ybed : UB | _ => .seq (reg0 (hid ylea) 1) (.seq (reg0 (hid ylec) 7) .ret)
def c_BParty : EB × List QOp × Nat := ((hid ybed), [(.mov (.t 2))], 9)
theorem k_BParty : cfun Tryz.prog 50 = some c_BParty := by kernel_rfl
@[simp] def ylee : UL | _ => [xQ 0 2 (.mov (.k (.bool false)))]
@[simp] def ylef : UL | _ => [xM 6 2 8]
@[simp] def yleg : UL | _ => xM 0 3 0 :: xQ 1 4 (.bin .eql (.t 3) (xK 0)) :: xM 2 5 4 :: xG 3 6 5 false (.mov (.t 0)) :: xG 4 7 5 false (.bin .eql (.t 6) (xK 1)) :: xQ 5 8 (.pick (.t 5) (.k (.bool true)) (.t 7)) :: hid ylef
@[simp] def ybeh : UB | _ => .seq (reg0 (hid ylee) 1) (.seq (reg0 (hid yleg) 7) .ret)
def c_BSide : EB × List QOp × Nat := ((hid ybeh), [(.mov (.t 2))], 9)
theorem k_BSide : cfun Tryz.prog 43 = some c_BSide := by kernel_rfl
@[simp] def ylei : UL | _ => [xQ 0 2 (.box 42 (.t 0)), xQ 1 3 (.box 47 (.t 1)), xQ 2 4 (.mov (.k .nilIface))]
@[simp] def ylej : UL | _ => [xM 18 24 23, xG 19 25 24 false (.fad 37 (.t 2)), xG 20 26 24 false (.ldc (.t 25)), xG 21 27 24 false (.bin .gtr (.t 26) (xK 1125899906842624)), xQ 22 28 (.pick (.t 24) (.k (.bool true)) (.t 27)), xM 23 5 28]
@[simp] def ylek : UL | _ => xQ 12 18 (.pick (.t 14) (.k (.bool true)) (.t 17)) :: xM 13 19 18 :: xG 14 20 19 false (.fad 37 (.t 2)) :: xG 15 21 19 false (.ldc (.t 20)) :: xG 16 22 19 false (.bin .lss (.t 21) (xK 0)) :: xQ 17 23 (.pick (.t 19) (.k (.bool true)) (.t 22)) :: hid ylej
@[simp] def ylel : UL | _ => xG 6 12 9 false (.bin .lss (.t 11) (xK 1)) :: xQ 7 13 (.pick (.t 9) (.k (.bool true)) (.t 12)) :: xM 8 14 13 :: xG 9 15 14 false (.fad 36 (.t 2)) :: xG 10 16 14 false (.ldc (.t 15)) :: xG 11 17 14 false (.bin .gtr (.t 16) (xK 65536)) :: hid ylek
@[simp] def ylem : UL | _ => xQ 0 6 (.lda 5 (.t 3)) :: xO 1 7 (.call 49 [(.t 6)]) :: xQ 2 8 (.eqi true (.t 7)) :: xM 3 9 8 :: xG 4 10 9 false (.fad 36 (.t 2)) :: xG 5 11 9 false (.ldc (.t 10)) :: hid ylel
@[simp] def ylen : UL | _ => [xQ 0 29 (.mki 120 (xK 1)), xM 1 4 29]
@[simp] def yleo : UL | _ => [xG 18 49 43 false (.ldc (.t 48)), xG 19 50 43 false (.bin .eql (.t 46) (.t 49)), xQ 20 51 (.pick (.t 43) (.k (.bool true)) (.t 50)), xM 21 30 51]
@[simp] def ylep : UL | _ => xM 12 43 42 :: xG 13 44 43 false (.fad 34 (.t 2)) :: xG 14 45 43 false (.iad 2 1 (.t 44) (xK 0)) :: xG 15 46 43 false (.ldc (.t 45)) :: xG 16 47 43 false (.fad 34 (.t 2)) :: xG 17 48 43 false (.iad 2 1 (.t 47) (xK 1)) :: hid yleo
@[simp] def yleq : UL | _ => xG 6 37 36 false (.fad 34 (.t 2)) :: xG 7 38 36 false (.iad 2 1 (.t 37) (xK 1)) :: xG 8 39 36 false (.ldc (.t 38)) :: ⟨9, (some 40), (some (36, false)), (.call 50 [(.t 39)]), []⟩ :: xG 10 41 36 false (.un .not (.t 40)) :: xQ 11 42 (.pick (.t 36) (.k (.bool true)) (.t 41)) :: hid ylep
@[simp] def yler : UL | _ => xQ 0 31 (.fad 34 (.t 2)) :: xQ 1 32 (.iad 2 1 (.t 31) (xK 0)) :: xQ 2 33 (.ldc (.t 32)) :: xO 3 34 (.call 50 [(.t 33)]) :: xQ 4 35 (.un .not (.t 34)) :: xM 5 36 35 :: hid yleq
@[simp] def yles : UL | _ => [xQ 0 52 (.mki 120 (xK 33)), xM 1 4 52]
@[simp] def ylet : UL | _ => [xQ 0 54 (.lda 5 (.t 3)), xQ 2 56 (.fad 33 (.t 2)), xQ 3 57 (.ldc (.t 56)), ⟨1, (some 55), none, (.call 37 [(.t 54)]), [2, 3]⟩, xQ 4 58 (.bin .neq (.t 55) (.t 57)), xM 5 53 58]
@[simp] def yleu : UL | _ => [xQ 0 59 (.mki 120 (xK 20)), xM 1 4 59]
@[simp] def ylev : UL | _ => [xM 6 60 66]
@[simp] def ylew : UL | _ => xQ 0 61 (.fad 1 (.t 3)) :: xQ 1 62 (.iad 2 1 (.t 61) (xK 0)) :: xQ 2 63 (.ldc (.t 62)) :: xQ 3 64 (.fad 37 (.t 2)) :: xQ 4 65 (.ldc (.t 64)) :: xQ 5 66 (.bin .lss (.t 63) (.t 65)) :: hid ylev
@[simp] def ylex : UL | _ => [xQ 0 67 (.mki 120 (xK 26)), xM 1 4 67]
@[simp] def ybey : UB | _ => .seq (reg0 (hid ylew) 7) (.cond (.t 60) (.seq (reg0 (hid ylex) 2) .ret) .skip)
@[simp] def ybez : UB | _ => .seq (reg1 (hid ylet) 6) (.cond (.t 53) (.seq (reg0 (hid yleu) 2) .ret) (hid ybey))
@[simp] def ybf0 : UB | _ => .seq (reg0 (hid yler) 22) (.cond (.t 30) (.seq (reg0 (hid yles) 2) .ret) (hid ybez))
@[simp] def ybf1 : UB | _ => .seq (reg0 (hid ylem) 24) (.cond (.t 5) (.seq (reg0 (hid ylen) 2) .ret) (hid ybf0))
@[simp] def ylf2 : UL | _ => [xQ 0 4 (.mov (.k .nilIface))]
@[simp] def ybf3 : UB | _ => .seq (.block 0 (hid ybf1)) (.seq (reg0 (hid ylf2) 1) .ret)
@[simp] def ybf4 : UB | _ => .seq (reg0 (hid ylei) 3) (hid ybf3)
def c_BCheck : EB × List QOp × Nat := ((hid ybf4), [(.mov (.t 4))], 68)
theorem k_BCheck : cfun Tryz.prog 20 = some c_BCheck := by kernel_rfl
@[simp] def ylf5 : UL | _ => [xQ 0 2 (.mov (.k (.bool false)))]
@[simp] def ylf6 : UL | _ => [xM 6 2 8]
@[simp] def ylf7 : UL | _ => xM 0 3 0 :: xQ 1 4 (.bin .geq (.t 3) (xK 0)) :: xM 2 5 4 :: xG 3 6 5 true (.mov (.t 0)) :: xG 4 7 5 true (.bin .lss (.t 6) (xK 16)) :: xQ 5 8 (.pick (.t 5) (.t 7) (.k (.bool false))) :: hid ylf6
@[simp] def ybf8 : UB | _ => .seq (reg0 (hid ylf5) 1) (.seq (reg0 (hid ylf7) 7) .ret)
def c_RParty : EB × List QOp × Nat := ((hid ybf8), [(.mov (.t 2))], 9)
theorem k_RParty : cfun Tryz.prog 52 = some c_RParty := by kernel_rfl
@[simp] def ylf9 : UL | _ => [xQ 0 2 (.box 28 (.t 0)), xQ 1 3 (.box 32 (.t 1)), xQ 2 4 (.mov (xK 0))]
@[simp] def ylfa : UL | _ => [xM 18 23 22, xG 19 24 23 false (.fad 37 (.t 2)), xG 20 25 23 false (.ldc (.t 24)), xG 21 26 23 false (.bin .gtr (.t 25) (xK 1125899906842624)), xQ 22 27 (.pick (.t 23) (.k (.bool true)) (.t 26))]
@[simp] def ylfb : UL | _ => xQ 12 17 (.pick (.t 13) (.k (.bool true)) (.t 16)) :: xM 13 18 17 :: xG 14 19 18 false (.fad 37 (.t 2)) :: xG 15 20 18 false (.ldc (.t 19)) :: xG 16 21 18 false (.bin .lss (.t 20) (xK 0)) :: xQ 17 22 (.pick (.t 18) (.k (.bool true)) (.t 21)) :: hid ylfa
@[simp] def ylfc : UL | _ => xG 6 11 8 false (.bin .lss (.t 10) (xK 1)) :: xQ 7 12 (.pick (.t 8) (.k (.bool true)) (.t 11)) :: xM 8 13 12 :: xG 9 14 13 false (.fad 36 (.t 2)) :: xG 10 15 13 false (.ldc (.t 14)) :: xG 11 16 13 false (.bin .gtr (.t 15) (xK 65536)) :: hid ylfb
@[simp] def ylfd : UL | _ => xQ 0 5 (.lda 5 (.t 3)) :: xO 1 6 (.call 51 [(.t 5)]) :: xQ 2 7 (.bin .neq (.t 6) (xK 0)) :: xM 3 8 7 :: xG 4 9 8 false (.fad 36 (.t 2)) :: xG 5 10 8 false (.ldc (.t 9)) :: hid ylfc
@[simp] def ylfe : UL | _ => [xQ 0 4 (.mov (xK 1))]
@[simp] def ybff : UB | _ => .seq (reg0 (hid ylfd) 23) (.cond (.t 27) (.seq (reg0 (hid ylfe) 1) .ret) .skip)
@[simp] def ylfg : UL | _ => [xG 18 46 40 false (.ldc (.t 45)), xG 19 47 40 false (.bin .eql (.t 43) (.t 46)), xQ 20 48 (.pick (.t 40) (.k (.bool true)) (.t 47))]
@[simp] def ylfh : UL | _ => xM 12 40 39 :: xG 13 41 40 false (.fad 34 (.t 2)) :: xG 14 42 40 false (.iad 2 1 (.t 41) (xK 0)) :: xG 15 43 40 false (.ldc (.t 42)) :: xG 16 44 40 false (.fad 34 (.t 2)) :: xG 17 45 40 false (.iad 2 1 (.t 44) (xK 1)) :: hid ylfg
@[simp] def ylfi : UL | _ => xG 6 34 33 false (.fad 34 (.t 2)) :: xG 7 35 33 false (.iad 2 1 (.t 34) (xK 1)) :: xG 8 36 33 false (.ldc (.t 35)) :: ⟨9, (some 37), (some (33, false)), (.call 52 [(.t 36)]), []⟩ :: xG 10 38 33 false (.un .not (.t 37)) :: xQ 11 39 (.pick (.t 33) (.k (.bool true)) (.t 38)) :: hid ylfh
@[simp] def ylfj : UL | _ => xQ 0 28 (.fad 34 (.t 2)) :: xQ 1 29 (.iad 2 1 (.t 28) (xK 0)) :: xQ 2 30 (.ldc (.t 29)) :: xO 3 31 (.call 52 [(.t 30)]) :: xQ 4 32 (.un .not (.t 31)) :: xM 5 33 32 :: hid ylfi
@[simp] def ylfk : UL | _ => [xQ 0 4 (.mov (xK 33))]
@[simp] def ybfl : UB | _ => .seq (reg0 (hid ylfj) 21) (.cond (.t 48) (.seq (reg0 (hid ylfk) 1) .ret) .skip)
@[simp] def ylfm : UL | _ => [xQ 0 49 (.lda 5 (.t 3)), xQ 2 51 (.fad 33 (.t 2)), xQ 3 52 (.ldc (.t 51)), ⟨1, (some 50), none, (.call 53 [(.t 49)]), [2, 3]⟩, xQ 4 53 (.bin .neq (.t 50) (.t 52))]
@[simp] def ylfn : UL | _ => [xQ 0 4 (.mov (xK 20))]
@[simp] def ybfo : UB | _ => .seq (reg1 (hid ylfm) 5) (.cond (.t 53) (.seq (reg0 (hid ylfn) 1) .ret) .skip)
@[simp] def ylfp : UL | _ => [xQ 0 54 (.fad 37 (.t 2)), xQ 1 55 (.ldc (.t 54)), xQ 2 56 (.fad 1 (.t 3)), xQ 3 57 (.iad 2 1 (.t 56) (xK 0)), xQ 4 58 (.ldc (.t 57)), xQ 5 59 (.bin .gtr (.t 55) (.t 58))]
@[simp] def ylfq : UL | _ => [xQ 0 4 (.mov (xK 26))]
@[simp] def ybfr : UB | _ => .seq (reg0 (hid ylfp) 6) (.cond (.t 59) (.seq (reg0 (hid ylfq) 1) .ret) .skip)
@[simp] def ylfs : UL | _ => [xQ 0 4 (.mov (xK 0))]
@[simp] def ybft : UB | _ => .seq (hid ybfo) (.seq (hid ybfr) (.seq (reg0 (hid ylfs) 1) .ret))
@[simp] def ybfu : UB | _ => .seq (reg0 (hid ylf9) 3) (.seq (hid ybff) (.seq (hid ybfl) (hid ybft)))
def c_RBCheck : EB × List QOp × Nat := ((hid ybfu), [(.mov (.t 4))], 60)
theorem k_RBCheck : cfun Tryz.prog 21 = some c_RBCheck := by kernel_rfl
theorem chk_t {s : Sta} (h : mayS s = true) : chkS s = 0 := by simp [chkS, h]
def bldE (p : Prm) (s : Sta) : Nat :=
  if mayS s = false ∨ p.dl < 1 ∨ 65536 < p.dl ∨ p.fe < 0 ∨ 1125899906842624 < p.fe then 1
  else if ¬ (0 ≤ p.k0 ∧ p.k0 < 16) ∨ ¬ (0 ≤ p.k1 ∧ p.k1 < 16) ∨ p.k0 = p.k1 then 33
  else if totS s ≠ p.am then 20 else if s.h0 < p.fe then 26 else 0
@[simp] theorem errV_26b : Value.iface 120 (.int .i64 26) = errV 26 := rfl
@[simp] theorem errV_33b : Value.iface 120 (.int .i64 33) = errV 33 := rfl
@[simp] theorem errV_20b : Value.iface 120 (.int .i64 20) = errV 20 := rfl
@[simp] theorem errV_1b : Value.iface 120 (.int .i64 1) = errV 1 := rfl
theorem BParty_ok (n : Int) : ECalls Tryz.prog 50 [I .i64 n] [] fun y H' => H' = [] ∧ y = .lit (.bool (decide (0 ≤ n ∧ n < 16))) := by
  refine ecalls k_BParty ?_
  simp [c_BParty, I]
  by_cases c1 : 0 ≤ n
  · by_cases c2 : n < 16
    · simp [c1, c2]
      exact fin0
    · simp [c1, c2]
      exact fin0
  · simp [c1]
    exact fin0
theorem RParty_ok (n : Int) : ECalls Tryz.prog 52 [I .i64 n] [] fun y H' => H' = [] ∧ y = .lit (.bool (decide (0 ≤ n ∧ n < 16))) := by
  refine ecalls k_RParty ?_
  simp [c_RParty, I]
  by_cases c1 : 0 ≤ n
  · by_cases c2 : n < 16
    · simp [c1, c2]
      exact fin0
    · simp [c1, c2]
      exact fin0
  · simp [c1]
    exact fin0
theorem BSide_ok (n : Int) : ECalls Tryz.prog 43 [I .i64 n] [] fun y H' => H' = [] ∧ y = .lit (.bool (decide (n = 0 ∨ n = 1))) := by
  refine ecalls k_BSide ?_
  simp [c_BSide, I]
  by_cases c1 : n = 0
  · simp [c1]
    exact fin0
  · simp [c1]
    exact fin0
theorem BCheck_ok (p : Prm) (s : Sta) (hp : p.ok) (hs : s.ok) : ECalls Tryz.prog 20 [PVv p, SV s] [] fun y H' => H' = [] ∧ y = .lit (errV (bldE p s)) := by
  have h1 := hp.1
  have lp := prmC_len h1
  have tp := pm_take h1
  have e33 := idx_of (pm_at h1 1) (by omega)
  have e34 := idx_of (pm_at h1 2) (by omega)
  have e35 := idx_of (pm_at h1 3) (by omega)
  have e36 := idx_of (pm_at h1 4) (by omega)
  have e37 := idx_of (pm_at h1 5) (by omega)
  refine ecalls k_BCheck ?_
  simp [c_BCheck, PVv, SV, staC, I, iC, lp, tp, e33, e34, e35, e36, e37, w_0, w_1, -errV_0]
  refine call0 (SCheck_ok s hs) (by simp [PVv, SV, staC, I, iC, lp, tp, e33, e34, e35, e36, e37, w_0, w_1, -errV_0]) ?_
  rintro y H' ⟨rfl, rfl⟩
  refine ⟨.inl (by simp [I]), le_ok rfl, ?_⟩
  cases hm : mayS s
  · rw [show bldE p s = 1 from if_pos (.inl hm)]
    simp [hm, PVv, SV, staC, I, iC, lp, tp, e33, e34, e35, e36, e37, w_0, w_1, -errV_0]
    exact fin0
  simp [hm, PVv, SV, staC, I, iC, lp, tp, e33, e34, e35, e36, e37, w_0, w_1, -errV_0]
  by_cases c1 : p.dl < 1
  · have d1 : ¬ 1 ≤ p.dl := by omega
    rw [show bldE p s = 1 from if_pos (.inr (.inl c1))]
    simp [c1, d1, PVv, SV, staC, I, iC, lp, tp, e33, e34, e35, e36, e37, w_0, w_1, -errV_0]
    exact fin0
  have d1 : 1 ≤ p.dl := by omega
  by_cases c2 : 65536 < p.dl
  · have d2 : ¬ p.dl ≤ 65536 := by omega
    rw [show bldE p s = 1 from if_pos (.inr (.inr (.inl c2)))]
    simp [c1, d1, c2, d2, PVv, SV, staC, I, iC, lp, tp, e33, e34, e35, e36, e37, w_0, w_1, -errV_0]
    exact fin0
  have d2 : p.dl ≤ 65536 := by omega
  by_cases c3 : p.fe < 0
  · have d3 : ¬ 0 ≤ p.fe := by omega
    rw [show bldE p s = 1 from if_pos (.inr (.inr (.inr (.inl c3))))]
    simp [c1, d1, c2, d2, c3, d3, PVv, SV, staC, I, iC, lp, tp, e33, e34, e35, e36, e37, w_0, w_1, -errV_0]
    exact fin0
  have d3 : 0 ≤ p.fe := by omega
  by_cases c4 : 1125899906842624 < p.fe
  · have d4 : ¬ p.fe ≤ 1125899906842624 := by omega
    rw [show bldE p s = 1 from if_pos (.inr (.inr (.inr (.inr c4))))]
    simp [c1, d1, c2, d2, c3, d3, c4, d4, PVv, SV, staC, I, iC, lp, tp, e33, e34, e35, e36, e37, w_0, w_1, -errV_0]
    exact fin0
  have d4 : p.fe ≤ 1125899906842624 := by omega
  have n1 : ¬ (mayS s = false ∨ p.dl < 1 ∨ 65536 < p.dl ∨ p.fe < 0 ∨ 1125899906842624 < p.fe) := by
    rintro (h | h | h | h | h)
    · rw [hm] at h; simp at h
    · exact c1 h
    · exact c2 h
    · exact c3 h
    · exact c4 h
  simp [c1, d1, c2, d2, c3, d3, c4, d4, PVv, SV, staC, I, iC, lp, tp, e33, e34, e35, e36, e37, w_0, w_1, -errV_0]
  refine call0 (BParty_ok p.k0) (by simp [PVv, SV, staC, I, iC, lp, tp, e33, e34, e35, e36, e37, w_0, w_1, -errV_0]) ?_
  rintro y H' ⟨rfl, rfl⟩
  refine ⟨.inl (by simp), le_ok rfl, ?_⟩
  cases c5 : decide (0 ≤ p.k0 ∧ p.k0 < 16)
  · have c5 := of_decide_eq_false c5
    rw [show bldE p s = 33 by unfold bldE; rw [if_neg n1, if_pos (.inl c5)]]
    simp [PVv, SV, staC, I, iC, lp, tp, e33, e34, e35, e36, e37, w_0, w_1, -errV_0]
    exact fin0
  have c5 := of_decide_eq_true c5
  simp [PVv, SV, staC, I, iC, lp, tp, e33, e34, e35, e36, e37, w_0, w_1, -errV_0]
  refine call0 (BParty_ok p.k1) (by simp [PVv, SV, staC, I, iC, lp, tp, e33, e34, e35, e36, e37, w_0, w_1, -errV_0]) ?_
  rintro y H' ⟨rfl, rfl⟩
  refine ⟨.inl (by simp), le_ok rfl, ?_⟩
  cases c6 : decide (0 ≤ p.k1 ∧ p.k1 < 16)
  · have c6 := of_decide_eq_false c6
    rw [show bldE p s = 33 by unfold bldE; rw [if_neg n1, if_pos (.inr (.inl c6))]]
    simp [PVv, SV, staC, I, iC, lp, tp, e33, e34, e35, e36, e37, w_0, w_1, -errV_0]
    exact fin0
  have c6 := of_decide_eq_true c6
  simp [PVv, SV, staC, I, iC, lp, tp, e33, e34, e35, e36, e37, w_0, w_1, -errV_0]
  by_cases c7 : p.k0 = p.k1
  · rw [show bldE p s = 33 by unfold bldE; rw [if_neg n1, if_pos (.inr (.inr c7))]]
    simp [c7, PVv, SV, staC, I, iC, lp, tp, e33, e34, e35, e36, e37, w_0, w_1, -errV_0]
    exact fin0
  have n2 : ¬ (¬ (0 ≤ p.k0 ∧ p.k0 < 16) ∨ ¬ (0 ≤ p.k1 ∧ p.k1 < 16) ∨ p.k0 = p.k1) := by
    rintro (h | h | h)
    · exact h c5
    · exact h c6
    · exact c7 h
  simp [c7, PVv, SV, staC, I, iC, lp, tp, e33, e34, e35, e36, e37, w_0, w_1, -errV_0]
  refine call0 (Total_ok s hs) (by simp [PVv, SV, staC, I, iC, lp, tp, e33, e34, e35, e36, e37, w_0, w_1, -errV_0]) ?_
  rintro y H' ⟨rfl, rfl⟩
  refine ⟨.inl (by simp [I]), le_ok rfl, ?_⟩
  by_cases c8 : totS s = p.am
  rotate_left
  · rw [show bldE p s = 20 by unfold bldE; rw [if_neg n1, if_neg n2, if_pos c8]]
    simp [c8, PVv, SV, staC, I, iC, lp, tp, e33, e34, e35, e36, e37, w_0, w_1, -errV_0]
    exact fin0
  simp [c8, PVv, SV, staC, I, iC, lp, tp, e33, e34, e35, e36, e37, w_0, w_1, -errV_0]
  by_cases c9 : s.h0 < p.fe
  · have d9 : ¬ p.fe ≤ s.h0 := by omega
    rw [show bldE p s = 26 by unfold bldE; rw [if_neg n1, if_neg n2, if_neg (by simpa using c8), if_pos c9]]
    simp [c9, d9, PVv, SV, staC, I, iC, lp, tp, e33, e34, e35, e36, e37, w_0, w_1, -errV_0]
    exact fin0
  have d9 : p.fe ≤ s.h0 := by omega
  rw [show bldE p s = 0 by unfold bldE; rw [if_neg n1, if_neg n2, if_neg (by simpa using c8), if_neg c9]]
  simp [c9, d9, PVv, SV, staC, I, iC, lp, tp, e33, e34, e35, e36, e37, w_0, w_1, -errV_0]
  exact fin0
theorem RBCheck_ok (p : Prm) (s : Sta) (hp : p.ok) (hs : s.ok) : ECalls Tryz.prog 21 [PVv p, SV s] [] fun y H' => H' = [] ∧ y = I .i64 (bldE p s) := by
  have h1 := hp.1
  have lp := prmC_len h1
  have tp := pm_take h1
  have e33 := idx_of (pm_at h1 1) (by omega)
  have e34 := idx_of (pm_at h1 2) (by omega)
  have e35 := idx_of (pm_at h1 3) (by omega)
  have e36 := idx_of (pm_at h1 4) (by omega)
  have e37 := idx_of (pm_at h1 5) (by omega)
  refine ecalls k_RBCheck ?_
  simp [c_RBCheck, PVv, SV, staC, I, iC, lp, tp, e33, e34, e35, e36, e37, w_0, w_1, -errV_0]
  refine call0 (RCheck_ok s hs) (by simp [PVv, SV, staC, I, iC, lp, tp, e33, e34, e35, e36, e37, w_0, w_1, -errV_0]) ?_
  rintro y H' ⟨rfl, rfl⟩
  refine ⟨.inl (by simp [I]), le_ok rfl, ?_⟩
  cases hm : mayS s
  · rw [show bldE p s = 1 from if_pos (.inl hm)]
    simp [chk_f hm, PVv, SV, staC, I, iC, lp, tp, e33, e34, e35, e36, e37, w_0, w_1, -errV_0]
    exact fin0
  simp [chk_t hm, PVv, SV, staC, I, iC, lp, tp, e33, e34, e35, e36, e37, w_0, w_1, -errV_0]
  by_cases c1 : p.dl < 1
  · have d1 : ¬ 1 ≤ p.dl := by omega
    rw [show bldE p s = 1 from if_pos (.inr (.inl c1))]
    simp [c1, d1, PVv, SV, staC, I, iC, lp, tp, e33, e34, e35, e36, e37, w_0, w_1, -errV_0]
    exact fin0
  have d1 : 1 ≤ p.dl := by omega
  by_cases c2 : 65536 < p.dl
  · have d2 : ¬ p.dl ≤ 65536 := by omega
    rw [show bldE p s = 1 from if_pos (.inr (.inr (.inl c2)))]
    simp [c1, d1, c2, d2, PVv, SV, staC, I, iC, lp, tp, e33, e34, e35, e36, e37, w_0, w_1, -errV_0]
    exact fin0
  have d2 : p.dl ≤ 65536 := by omega
  by_cases c3 : p.fe < 0
  · have d3 : ¬ 0 ≤ p.fe := by omega
    rw [show bldE p s = 1 from if_pos (.inr (.inr (.inr (.inl c3))))]
    simp [c1, d1, c2, d2, c3, d3, PVv, SV, staC, I, iC, lp, tp, e33, e34, e35, e36, e37, w_0, w_1, -errV_0]
    exact fin0
  have d3 : 0 ≤ p.fe := by omega
  by_cases c4 : 1125899906842624 < p.fe
  · have d4 : ¬ p.fe ≤ 1125899906842624 := by omega
    rw [show bldE p s = 1 from if_pos (.inr (.inr (.inr (.inr c4))))]
    simp [c1, d1, c2, d2, c3, d3, c4, d4, PVv, SV, staC, I, iC, lp, tp, e33, e34, e35, e36, e37, w_0, w_1, -errV_0]
    exact fin0
  have d4 : p.fe ≤ 1125899906842624 := by omega
  have n1 : ¬ (mayS s = false ∨ p.dl < 1 ∨ 65536 < p.dl ∨ p.fe < 0 ∨ 1125899906842624 < p.fe) := by
    rintro (h | h | h | h | h)
    · rw [hm] at h; simp at h
    · exact c1 h
    · exact c2 h
    · exact c3 h
    · exact c4 h
  simp [c1, d1, c2, d2, c3, d3, c4, d4, PVv, SV, staC, I, iC, lp, tp, e33, e34, e35, e36, e37, w_0, w_1, -errV_0]
  refine call0 (RParty_ok p.k0) (by simp [PVv, SV, staC, I, iC, lp, tp, e33, e34, e35, e36, e37, w_0, w_1, -errV_0]) ?_
  rintro y H' ⟨rfl, rfl⟩
  refine ⟨.inl (by simp), le_ok rfl, ?_⟩
  cases c5 : decide (0 ≤ p.k0 ∧ p.k0 < 16)
  · have c5 := of_decide_eq_false c5
    rw [show bldE p s = 33 by unfold bldE; rw [if_neg n1, if_pos (.inl c5)]]
    simp [PVv, SV, staC, I, iC, lp, tp, e33, e34, e35, e36, e37, w_0, w_1, -errV_0]
    exact fin0
  have c5 := of_decide_eq_true c5
  simp [PVv, SV, staC, I, iC, lp, tp, e33, e34, e35, e36, e37, w_0, w_1, -errV_0]
  refine call0 (RParty_ok p.k1) (by simp [PVv, SV, staC, I, iC, lp, tp, e33, e34, e35, e36, e37, w_0, w_1, -errV_0]) ?_
  rintro y H' ⟨rfl, rfl⟩
  refine ⟨.inl (by simp), le_ok rfl, ?_⟩
  cases c6 : decide (0 ≤ p.k1 ∧ p.k1 < 16)
  · have c6 := of_decide_eq_false c6
    rw [show bldE p s = 33 by unfold bldE; rw [if_neg n1, if_pos (.inr (.inl c6))]]
    simp [PVv, SV, staC, I, iC, lp, tp, e33, e34, e35, e36, e37, w_0, w_1, -errV_0]
    exact fin0
  have c6 := of_decide_eq_true c6
  simp [PVv, SV, staC, I, iC, lp, tp, e33, e34, e35, e36, e37, w_0, w_1, -errV_0]
  by_cases c7 : p.k0 = p.k1
  · rw [show bldE p s = 33 by unfold bldE; rw [if_neg n1, if_pos (.inr (.inr c7))]]
    simp [c7, PVv, SV, staC, I, iC, lp, tp, e33, e34, e35, e36, e37, w_0, w_1, -errV_0]
    exact fin0
  have n2 : ¬ (¬ (0 ≤ p.k0 ∧ p.k0 < 16) ∨ ¬ (0 ≤ p.k1 ∧ p.k1 < 16) ∨ p.k0 = p.k1) := by
    rintro (h | h | h)
    · exact h c5
    · exact h c6
    · exact c7 h
  simp [c7, PVv, SV, staC, I, iC, lp, tp, e33, e34, e35, e36, e37, w_0, w_1, -errV_0]
  refine call0 (RTotal_ok s hs) (by simp [PVv, SV, staC, I, iC, lp, tp, e33, e34, e35, e36, e37, w_0, w_1, -errV_0]) ?_
  rintro y H' ⟨rfl, rfl⟩
  refine ⟨.inl (by simp [I]), le_ok rfl, ?_⟩
  by_cases c8 : totS s = p.am
  rotate_left
  · rw [show bldE p s = 20 by unfold bldE; rw [if_neg n1, if_neg n2, if_pos c8]]
    simp [c8, PVv, SV, staC, I, iC, lp, tp, e33, e34, e35, e36, e37, w_0, w_1, -errV_0]
    exact fin0
  simp [c8, PVv, SV, staC, I, iC, lp, tp, e33, e34, e35, e36, e37, w_0, w_1, -errV_0]
  by_cases c9 : s.h0 < p.fe
  · have d9 : ¬ p.fe ≤ s.h0 := by omega
    rw [show bldE p s = 26 by unfold bldE; rw [if_neg n1, if_neg n2, if_neg (by simpa using c8), if_pos c9]]
    simp [c9, d9, PVv, SV, staC, I, iC, lp, tp, e33, e34, e35, e36, e37, w_0, w_1, -errV_0]
    exact fin0
  have d9 : p.fe ≤ s.h0 := by omega
  rw [show bldE p s = 0 by unfold bldE; rw [if_neg n1, if_neg n2, if_neg (by simpa using c8), if_neg c9]]
  simp [c9, d9, PVv, SV, staC, I, iC, lp, tp, e33, e34, e35, e36, e37, w_0, w_1, -errV_0]
  exact fin0
@[simp] def ylfv : UL | _ => [xQ 0 1 (.box 63 (.t 0)), xQ 1 2 (.alloc 63 [xZ, xS, xS]), xQ 2 3 (.mov (.k .nilIface))]
@[simp] def ylfw : UL | _ => [xQ 0 5 (.lda 3 (.t 1)), xO 1 6 (.call 79 [(.t 5)]), xM 2 4 6]
@[simp] def ylfx : UL | _ => [xM 0 7 4, xQ 1 8 (.eqi true (.t 7))]
@[simp] def ylfy : UL | _ => [xQ 0 9 (.build [xZ, xS, xS] []), xM 1 10 4, xN 2 (.fz (.sto 3 (.t 2) (.t 9))), xM 3 3 10]
@[simp] def ybfz : UB | _ => .seq (reg0 (hid ylfx) 2) (.cond (.t 8) (.seq (reg0 (hid ylfy) 4) .ret) .skip)
@[simp] def ylg0 : UL | _ => [xQ 0 11 (.lda 3 (.t 1)), xN 1 (.fz (.sto 3 (.t 2) (.t 11))), xQ 2 3 (.mov (.k .nilIface))]
@[simp] def ybg1 : UB | _ => .seq (.seq (reg0 (hid ylfw) 3) (hid ybfz)) (.seq (reg0 (hid ylg0) 3) .ret)
@[simp] def ybg2 : UB | _ => .seq (reg0 (hid ylfv) 3) (hid ybg1)
def c_BDone : EB × List QOp × Nat := ((hid ybg2), [(.lda 3 (.t 2)), (.mov (.t 3))], 12)
theorem k_BDone : cfun Tryz.prog 47 = some c_BDone := by kernel_rfl
@[simp] def ylg3 : UL | _ => [xQ 0 3 (.box 42 (.t 0)), xQ 1 4 (.box 47 (.t 1)), xQ 2 6 (.mov (.k xS)), xQ 3 7 (.mov (.k .nilIface))]
@[simp] def ylg4 : UL | _ => [xQ 0 11 (.lda 38 (.t 3)), xQ 1 12 (.lda 5 (.t 4)), xO 2 13 (.call 20 [(.t 11), (.t 12)]), xM 3 8 13]
@[simp] def ylg5 : UL | _ => [xM 0 14 8, xQ 1 15 (.eqi true (.t 14))]
@[simp] def ylg6 : UL | _ => [xM 0 16 8, xQ 1 6 (.mov (.k xS)), xM 2 7 16]
@[simp] def ybg7 : UB | _ => .seq (reg0 (hid ylg5) 2) (.cond (.t 15) (.seq (reg0 (hid ylg6) 3) .ret) .skip)
@[simp] def ylg8 : UL | _ => [xM 0 17 2, xO 1 18 (.call 43 [(.t 17)]), xQ 2 19 (.un .not (.t 18))]
@[simp] def ylg9 : UL | _ => [xQ 0 20 (.mki 120 (xK 1)), xQ 1 6 (.mov (.k xS)), xM 2 7 20]
@[simp] def ybga : UB | _ => .seq (reg0 (hid ylg8) 3) (.cond (.t 19) (.seq (reg0 (hid ylg9) 3) .ret) .skip)
@[simp] def ylgb : UL | _ => [xM 6 21 27, xQ 7 28 (.ext 0 (.t 21)), xQ 8 29 (.ext 1 (.t 21)), xM 9 9 28, xM 10 10 29]
@[simp] def ylgc : UL | _ => xQ 0 22 (.lda 38 (.t 3)) :: xQ 1 23 (.lda 5 (.t 4)) :: xM 2 24 2 :: xQ 3 25 (.build zU8 []) :: xQ 4 26 (.build (zU8 ++ (([xZ, xZ, xZ, xZ, xZ, xZ, xZ, xZ, xZ, xS, xS, xZ] : List Value) ++ zU8)) [(0, 38, (.t 22)), (38, 5, (.t 23)), (43, 1, (.t 24)), (44, 32, (.t 25))]) :: xO 5 27 (.call 44 [(.t 26)]) :: hid ylgb
@[simp] def ylgd : UL | _ => [xM 0 30 10, xM 1 6 30, xQ 2 7 (.mov (.k .nilIface))]
@[simp] def ybge : UB | _ => .seq (reg0 (hid ylgc) 11) (.seq (reg0 (hid ylgd) 3) .ret)
@[simp] def ybgf : UB | _ => .seq (.seq (reg0 (hid ylg4) 4) (hid ybg7)) (.seq (hid ybga) (hid ybge))
@[simp] def ybgg : UB | _ => .seq (reg0 (hid ylg3) 4) (hid ybgf)
def c_BPlaces : EB × List QOp × Nat := ((hid ybgg), [(.mov (.t 6)), (.mov (.t 7))], 31)
theorem k_BPlaces : cfun Tryz.prog 13 = some c_BPlaces := by kernel_rfl
@[simp] def ylgh : UL | _ => [xQ 0 4 (.box 42 (.t 0)), xQ 1 5 (.box 47 (.t 1)), xQ 2 7 (.box 23 (.t 3)), xQ 3 8 (.alloc 63 [xZ, xS, xS]), xQ 4 9 (.mov (.k .nilIface))]
@[simp] def ylgi : UL | _ => [xQ 0 13 (.lda 38 (.t 4)), xQ 1 14 (.lda 5 (.t 5)), xO 2 15 (.call 20 [(.t 13), (.t 14)]), xM 3 10 15]
@[simp] def ylgj : UL | _ => [xM 0 16 10, xQ 1 17 (.eqi true (.t 16))]
@[simp] def ylgk : UL | _ => [xQ 0 18 (.build [xZ, xS, xS] []), xM 1 19 10, xN 2 (.fz (.sto 3 (.t 8) (.t 18))), xM 3 9 19]
@[simp] def ybgl : UB | _ => .seq (reg0 (hid ylgj) 2) (.cond (.t 17) (.seq (reg0 (hid ylgk) 4) .ret) .skip)
@[simp] def ylgm : UL | _ => [xG 6 26 23 false (.eqa false 32 .u8 (.t 24) (.t 25)), xQ 7 27 (.pick (.t 23) (.k (.bool true)) (.t 26))]
@[simp] def ylgn : UL | _ => xM 0 20 2 :: xO 1 21 (.call 43 [(.t 20)]) :: xQ 2 22 (.un .not (.t 21)) :: xM 3 23 22 :: xG 4 24 23 false (.lda 32 (.t 7)) :: xG 5 25 23 false (.build zU8 []) :: hid ylgm
@[simp] def ylgo : UL | _ => [xQ 0 28 (.build [xZ, xS, xS] []), xQ 1 29 (.mki 120 (xK 1)), xN 2 (.fz (.sto 3 (.t 8) (.t 28))), xM 3 9 29]
@[simp] def ybgp : UB | _ => .seq (reg0 (hid ylgn) 8) (.cond (.t 27) (.seq (reg0 (hid ylgo) 4) .ret) .skip)
@[simp] def ylgq : UL | _ => [xM 6 30 36, xQ 7 37 (.ext 0 (.t 30)), xQ 8 38 (.ext 1 (.t 30)), xM 9 11 37, xM 10 12 38]
@[simp] def ylgr : UL | _ => xQ 0 31 (.lda 38 (.t 4)) :: xQ 1 32 (.lda 5 (.t 5)) :: xM 2 33 2 :: xQ 3 34 (.lda 32 (.t 7)) :: xQ 4 35 (.build (zU8 ++ (([xZ, xZ, xZ, xZ, xZ, xZ, xZ, xZ, xZ, xS, xS, xZ] : List Value) ++ zU8)) [(0, 38, (.t 31)), (38, 5, (.t 32)), (43, 1, (.t 33)), (44, 32, (.t 34))]) :: xO 5 36 (.call 44 [(.t 35)]) :: hid ylgq
@[simp] def ylgs : UL | _ => [xO 6 45 (.call 47 [(.t 44)]), xQ 7 46 (.ext 0 (.t 45)), xQ 8 47 (.ext 1 (.t 45)), xN 9 (.fz (.sto 3 (.t 8) (.t 46))), xM 10 9 47]
@[simp] def ylgt : UL | _ => xQ 0 39 (.fad 0 (.t 4)) :: xQ 1 40 (.lda 33 (.t 39)) :: xQ 2 41 (.build (zU8 ++ [xZ, xZ, xS]) [(0, 33, (.t 40))]) :: xO 3 42 (.fz (.q (.bsl 35 (zU8 ++ [xZ, xZ, xS]) 1 [(0, (.t 41))]))) :: xM 4 43 11 :: xQ 5 44 (.build [xZ, xS, xS] [(1, 1, (.t 42)), (2, 1, (.t 43))]) :: hid ylgs
@[simp] def ybgu : UB | _ => .seq (reg0 (hid ylgr) 11) (.seq (reg0 (hid ylgt) 11) .ret)
@[simp] def ybgv : UB | _ => .seq (.seq (reg0 (hid ylgi) 4) (hid ybgl)) (.seq (hid ybgp) (hid ybgu))
@[simp] def ybgw : UB | _ => .seq (reg0 (hid ylgh) 5) (hid ybgv)
def c_BCommit : EB × List QOp × Nat := ((hid ybgw), [(.lda 3 (.t 8)), (.mov (.t 9))], 48)
theorem k_BCommit : cfun Tryz.prog 18 = some c_BCommit := by kernel_rfl
def plcS (p : Prm) (s : Sta) (o : Int) : List (Int × Int) × Nat :=
  if bldE p s ≠ 0 then ([], bldE p s) else if ¬ (o = 0 ∨ o = 1) then ([], 1) else (plcB p s o, 0)
def cmtT (p : Prm) (s : Sta) (o : Int) (lock : List UInt8) : Txn := ⟨0, [⟨p.tx, p.n, 0, []⟩], outsB p s o lock⟩
def cmtS (p : Prm) (s : Sta) (o : Int) (lock : List UInt8) : Txn × Nat :=
  if bldE p s ≠ 0 then (zTx, bldE p s) else if ¬ (o = 0 ∨ o = 1) ∨ lock = hz then (zTx, 1) else donT (cmtT p s o lock)
theorem keysS_ris : ∀ {l : List Int} {o : Int}, keysS o l = true → RisI l ∧ ((l.length : Int) ≤ 15 - o ∨ l = []) ∧ ∀ k, l[0]? = some k → o < k
  | [], o, _ => ⟨by intro i a b h; simp at h, .inr rfl, by intro k h; simp at h⟩
  | a :: r, o, h => by
    simp only [keysS, Bool.and_eq_true, decide_eq_true_eq] at h
    obtain ⟨h1, h2, h3⟩ := keysS_ris h.2
    refine ⟨?_, .inl ?_, ?_⟩
    · intro i x y hx hy
      cases i with
      | zero =>
        simp at hx
        subst hx
        exact h3 y (by simpa using hy)
      | succ i => exact h1 i x y (by simpa using hx) (by simpa using hy)
    · rcases h2 with h2 | h2
      · simp; omega
      · subst h2; simp; omega
    · intro k hk
      simp at hk; omega
theorem payL_mem' : ∀ {o : Option Int} {l : List Pay}, payL o l = true → ∀ p ∈ l, mayP p = true
  | o, [], _, p, hp => by simp at hp
  | o, a :: r, h, p, hp => by
    simp only [payL, Bool.and_eq_true] at h
    rcases List.mem_cons.1 hp with rfl | hp
    · exact h.1.1
    · exact payL_mem' h.2 p hp
theorem bld_0 {p : Prm} {s : Sta} (h : bldE p s = 0) : (mayS s = true ∧ 1 ≤ p.dl ∧ p.dl ≤ 65536 ∧ 0 ≤ p.fe ∧ p.fe ≤ 1125899906842624) ∧ ((0 ≤ p.k0 ∧ p.k0 < 16) ∧ (0 ≤ p.k1 ∧ p.k1 < 16) ∧ p.k0 ≠ p.k1) ∧ totS s = p.am ∧ p.fe ≤ s.h0 := by
  unfold bldE at h
  split at h
  · simp at h
  rename_i h1
  split at h
  · simp at h
  rename_i h2
  split at h
  · simp at h
  rename_i h3
  split at h
  · simp at h
  rename_i h4
  refine ⟨⟨?_, by omega, by omega, by omega, by omega⟩, ⟨?_, ?_, ?_⟩, by simpa using h3, by omega⟩
  · cases hm : mayS s
    · exact absurd (.inl hm) h1
    · rfl
  · apply Classical.byContradiction; intro q; exact h2 (.inl q)
  · apply Classical.byContradiction; intro q; exact h2 (.inr (.inl q))
  · intro q; exact h2 (.inr (.inr q))
theorem outs_cond {p : Prm} {s : Sta} (h : bldE p s = 0) : i64 (s.h0 - p.fe) ∧ (s.pays.length ≤ 8 ∧ s.holds.length ≤ 8) ∧ (∀ x ∈ s.pays, 10 ≤ x.am ∧ (x.fr = 0 ∨ x.fr = 1)) ∧ ∀ h ∈ s.holds, KeysOK h.keys := by
  obtain ⟨⟨hm, d1, d2, d3, d4⟩, _, _, hf⟩ := bld_0 h
  obtain ⟨hr', hpl, hhl, htot⟩ := mayS_t hm
  refine ⟨by unfold i64; omega, ⟨by omega, by omega⟩, ?_, ?_⟩
  · intro x hx
    have := of_decide_eq_true (payL_mem' hpl x hx)
    exact ⟨this.2.2.2.1, this.2.2.1⟩
  · intro x hx
    have := holL_mem hhl x hx
    simp only [mayH, Bool.and_eq_true, decide_eq_true_eq] at this
    obtain ⟨k1, k2⟩ := this
    obtain ⟨q1, q2, _⟩ := keysS_ris k1
    have hlen : x.keys.length ≤ 16 := by
      rcases q2 with q2 | q2
      · omega
      · rw [q2]; simp
    exact (keys_ris k2.2.2.2.2 hlen q1).1
theorem outs_risk {p : Prm} {s : Sta} (h : bldE p s = 0) : ∀ h ∈ s.holds, insN h.keys = h.keys := by
  obtain ⟨⟨hm, _⟩, _⟩ := bld_0 h
  obtain ⟨_, _, hhl, _⟩ := mayS_t hm
  intro x hx
  have := holL_mem hhl x hx
  simp only [mayH, Bool.and_eq_true, decide_eq_true_eq] at this
  exact ins_ris (keysS_ris this.1).1
theorem waitV_i64 {p : Prm} (hp : p.ok) (o w : Int) : i64 (waitV p o w) := by
  unfold waitV
  split
  · exact hp.2.2.2.2.2.1
  · simp [i64]
theorem outsB_ok {p : Prm} {s : Sta} {o : Int} {lock : List UInt8} (hp : p.ok) (hs : s.ok) (hl : lock.length = 32) (h : bldE p s = 0) : (∀ x ∈ outsB p s o lock, x.ok) ∧ (outsB p s o lock).length ≤ 20 := by
  obtain ⟨k1, k2, k3, k4⟩ := outs_cond h
  have hr := outs_risk h
  obtain ⟨ok1, ok2, ok3, ok4, ok5, ok6, ok7⟩ := id hs
  have hh : ∀ w, i64 (hasP p s w) := fun w => by unfold hasP; split; exact k1; exact ok3
  have hf := fineB_ok (o := o) hp hl
  have hk : ∀ w, ∀ k ∈ [keyO p w], i64 k := fun w k hk => by simp at hk; subst hk; exact keyO_i64 hp _
  refine ⟨?_, ?_⟩
  · intro x hx
    unfold outsB at hx
    simp only [List.mem_append] at hx
    rcases hx with (hx | hx) | (hx | hx)
    · unfold out1 at hx
      split at hx
      · simp at hx; subst hx
        refine ⟨hh o, ?_, by simp [ownB]⟩
        intro b hb
        simp [ownB] at hb
        rcases hb with rfl | rfl
        · exact ⟨hk o, hz_len, by simp [i64], hp.2.2.2.2.2.1, by simp⟩
        · exact hf
      · simp at hx
    · unfold out2 at hx
      split at hx
      · simp at hx; subst hx
        refine ⟨hh _, ?_, by simp [allB]⟩
        intro b hb
        simp [allB] at hb
        subst hb
        rw [(keys_one _).2]
        exact ⟨hk _, hz_len, by simp [i64], by simp [i64], by simp⟩
      · simp at hx
    · obtain ⟨y, hy, rfl⟩ := List.mem_map.1 hx
      have hyo := ok4 y hy
      refine ⟨hyo.2.2.1, ?_, by simp [paidB]⟩
      intro b hb
      simp [paidB] at hb
      rcases hb with rfl | rfl | rfl
      · exact ⟨hk _, hyo.2.2.2.2, by simp [i64], waitV_i64 hp _ _, by simp⟩
      · exact ⟨hk _, hz_len, hyo.2.2.2.1, waitV_i64 hp _ _, by simp⟩
      · exact hf
    · obtain ⟨y, hy, rfl⟩ := List.mem_map.1 hx
      have hyo := ok5 y hy
      refine ⟨hyo.2.1, ?_, by simp [allB]⟩
      intro b hb
      simp [allB] at hb
      subst hb
      rw [hr y hy]
      exact ⟨hyo.2.2.1, hz_len, by simp [i64], by simp [i64], hyo.2.2.2⟩
  · have h1 : (out1 p s o lock).length ≤ 1 := by unfold out1; split <;> simp
    have h2 : (out2 p s o).length ≤ 1 := by unfold out2; split <;> simp
    unfold outsB
    simp [outP, outH]
    omega
theorem cmtT_ok {p : Prm} {s : Sta} {o : Int} {lock : List UInt8} (hp : p.ok) (hs : s.ok) (hl : lock.length = 32) (h : bldE p s = 0) : (cmtT p s o lock).ok := by
  obtain ⟨h1, h2⟩ := outsB_ok (o := o) hp hs hl h
  refine ⟨by simp [cmtT, i64], ?_, h1, by simp [cmtT], by simp [cmtT]; omega⟩
  intro x hx
  simp [cmtT] at hx
  subst hx
  exact ⟨hp.1, hp.2.1, by simp [i64], by simp⟩
theorem fr_nl {Φ : Nat → Prop} {w : World} {es : Nat} {r : List FV} {v : Value} (h : FR Φ w (.sl es [r ++ [.lit (.slice none 0 0)]]) v) : FR Φ w (.sl es [r ++ [.sl 1 []]]) v := by
  cases h with
  | sl es xs b off cap vs hb h0 hl hn hcap hcell hfr =>
    refine .sl es [r ++ [.sl 1 []]] b off cap vs hb h0 ?_ ?_ hcap hcell ?_
    · intro x hx
      simp at hx
      subst hx
      have := hl _ (by simp : (r ++ [FV.lit (.slice none 0 0)]) ∈ [r ++ [FV.lit (.slice none 0 0)]])
      simpa using this
    · simpa using hn
    · intro j x u hx hu
      simp only [List.flatten_cons, List.flatten_nil, List.append_nil] at hx hfr
      by_cases hj : j < r.length
      · refine hfr j x u ?_ hu
        rw [List.getElem?_append_left hj] at hx ⊢
        exact hx
      · rw [List.getElem?_append_right (by omega)] at hx
        have hj0 : j - r.length = 0 := by
          rcases Nat.eq_zero_or_pos (j - r.length) with e | e
          · exact e
          · rw [List.getElem?_eq_none (by simp; omega)] at hx; simp at hx
        rw [hj0] at hx
        simp at hx
        subst hx
        have h1 := hfr j (.lit (.slice none 0 0)) u (by rw [List.getElem?_append_right (by omega), hj0]; rfl) hu
        cases h1
        exact FR.emp 1 none 0
theorem ecalls_nlI {P : Program} {f : FuncId} {a c : EC} {r : List FV} {rest : List EV} {H : List EO} {post : EV → List (Option EO) → Prop} (h : ECalls P f (.v (.agg [a, .fz (.sl 35 [r ++ [.sl 1 []]]), c]) :: rest) H post) :
    ECalls P f (.v (.agg [a, .fz (.sl 35 [r ++ [.lit (.slice none 0 0)]]), c]) :: rest) H post := by
  intro ρ Φ w vals r' ha
  refine h ρ Φ w vals r' ?_
  obtain ⟨u, us, rfl, h1, h2⟩ := ha.cons_left
  refine All2.cons ?_ h2
  obtain ⟨vs, rfl, hv⟩ := h1
  refine ⟨vs, rfl, by simpa using hv.1, ?_⟩
  intro i x y hx hy
  rcases i with _ | _ | _ | i
  · exact hv.2 0 x y hx hy
  · have := hv.2 1 _ y rfl hy
    simp at hx; subst hx
    exact fr_nl this
  · exact hv.2 2 x y hx hy
  · simp at hx
theorem mkfold (p : Prm) (a b c o : Int) (P : List Pay) (Q : List Hol) (l : List UInt8) : prmC p ++ (EC.fz (.lit (.int .i64 a)) :: EC.fz (.lit (.int .i64 b)) :: EC.fz (.lit (.int .i64 c)) :: EC.fz (.sl 36 (payv P)) :: EC.fz (.sl 3 (holv Q)) :: EC.fz (.lit (.int .i64 o)) :: hc l) = mkC p ⟨a, b, c, P, Q⟩ o l := rfl
theorem BDone_ok (t : Txn) (ht : t.ok) : ECalls Tryz.prog 47 [TXv t] [] fun y H' => H' = [] ∧ y = .tup [.agg (txC (donT t).1), .c (.fz (.lit (errV (donT t).2)))] := by
  have h1 := TxCheck_ok t ht
  refine ecalls k_BDone ?_
  simp [c_BDone, TXv, txC, iC, -errV_0]
  refine call0 h1 (by simp [TXv, txC, iC]) ?_
  rintro y H' ⟨rfl, rfl⟩
  refine ⟨.inl (by simp), le_ok rfl, ?_⟩
  by_cases c : chkT t = 0
  · rw [show donT t = (t, 0) from if_neg (by simpa using c)]
    simp [c, -errV_0]
    exact fin0
  · rw [show donT t = (zTx, chkT t) from if_pos c]
    simp [c, -errV_0]
    refine finW _ (weak_nlB (o := 16) (k := 1) 35 rfl rfl) (finW _ (weak_nlB (o := 16) (k := 2) 2 rfl rfl) ?_)
    exact fin0
theorem BPlaces_ok (p : Prm) (s : Sta) (o : Int) (hp : p.ok) (hs : s.ok) : ECalls Tryz.prog 13 [PVv p, SV s, I .i64 o] [] fun y H' => H' = [] ∧ y = .tup [.c (.fz (.sl 2 (plcv (plcS p s o).1))), .c (.fz (.lit (errV (plcS p s o).2)))] := by
  have h1 := hp.1
  have lp := prmC_len h1
  have tp := pm_take h1
  refine ecalls k_BPlaces ?_
  simp [c_BPlaces, PVv, SV, staC, I, lp, tp, -errV_0]
  refine call0 (BCheck_ok p s hp hs) (by simp [PVv, SV, staC]) ?_
  rintro y H' ⟨rfl, rfl⟩
  refine ⟨.inl (by simp), le_ok rfl, ?_⟩
  by_cases c : bldE p s = 0
  rotate_left
  · rw [show plcS p s o = ([], bldE p s) from if_pos c]
    simp [c, -errV_0]
    refine finW _ (weak_nilF 6 2 rfl) ?_
    exact fin0
  simp [c, I, -errV_0]
  refine call0 (BSide_ok o) (by simp [I]) ?_
  rintro y H' ⟨rfl, rfl⟩
  refine ⟨.inl (by simp), le_ok rfl, ?_⟩
  cases c2 : decide (o = 0 ∨ o = 1)
  · have c2 := of_decide_eq_false c2
    rw [show plcS p s o = ([], 1) by unfold plcS; rw [if_neg (by simpa using c), if_pos c2]]
    simp [-errV_0]
    refine finW _ (weak_nilF 6 2 rfl) ?_
    exact fin0
  have c2 := of_decide_eq_true c2
  rw [show plcS p s o = (plcB p s o, 0) by unfold plcS; rw [if_neg (by simpa using c), if_neg (fun q => q c2)]]
  obtain ⟨k1, k2, k3, k4⟩ := outs_cond c
  simp [PVv, SV, staC, I, lp, tp, -errV_0]
  simp [List.take_append, List.drop_append, List.take_of_length_le, List.drop_of_length_le, lp, hz_len, tp, -errV_0]
  simp only [mkfold]
  refine call0 (BOuts_ok p s o hz hp hz_len c2 hs k1 k2 k3 k4) (by simp [MKv]) ?_
  rintro y H' ⟨rfl, rfl⟩
  refine ⟨.inl (by simp), le_ok rfl, ?_⟩
  simp [-errV_0]
  exact fin0
theorem BCommit_ok (p : Prm) (s : Sta) (o : Int) (lock : List UInt8) (hp : p.ok) (hs : s.ok) (hl : lock.length = 32) : ECalls Tryz.prog 18 [PVv p, SV s, I .i64 o, .v (.agg (hc lock))] [] fun y H' => H' = [] ∧ y = .tup [.agg (txC (cmtS p s o lock).1), .c (.fz (.lit (errV (cmtS p s o lock).2)))] := by
  have h1 := hp.1
  have lp := prmC_len h1
  have tp := pm_take h1
  refine ecalls k_BCommit ?_
  simp [c_BCommit, PVv, SV, staC, I, lp, tp, -errV_0]
  refine call0 (BCheck_ok p s hp hs) (by simp [PVv, SV, staC]) ?_
  rintro y H' ⟨rfl, rfl⟩
  refine ⟨.inl (by simp), le_ok rfl, ?_⟩
  by_cases c : bldE p s = 0
  rotate_left
  · rw [show cmtS p s o lock = (zTx, bldE p s) from if_pos c]
    simp [c, -errV_0]
    refine finW _ (weak_nlB (o := 48) (k := 1) 35 rfl rfl) (finW _ (weak_nlB (o := 48) (k := 2) 2 rfl rfl) ?_)
    exact fin0
  simp [c, I, -errV_0]
  refine call0 (BSide_ok o) (by simp [I]) ?_
  rintro y H' ⟨rfl, rfl⟩
  refine ⟨.inl (by simp), le_ok rfl, ?_⟩
  cases c2 : decide (o = 0 ∨ o = 1)
  · have c2 := of_decide_eq_false c2
    rw [show cmtS p s o lock = (zTx, 1) by unfold cmtS; rw [if_neg (by simpa using c), if_pos (.inl c2)]]
    simp [-errV_0]
    refine finW _ (weak_nlB (o := 48) (k := 1) 35 rfl rfl) (finW _ (weak_nlB (o := 48) (k := 2) 2 rfl rfl) ?_)
    exact fin0
  have c2 := of_decide_eq_true c2
  obtain ⟨k1, k2, k3, k4⟩ := outs_cond c
  simp [PVv, SV, staC, I, lp, tp, hl, hc_t32 hl, -errV_0]
  refine alt (fun c3 => ?_) (fun c3 => ?_)
  · rw [show cmtS p s o lock = (zTx, 1) by unfold cmtS; rw [if_neg (by simpa using c), if_pos (.inr c3)]]
    simp [-errV_0]
    refine finW _ (weak_nlB (o := 48) (k := 1) 35 rfl rfl) (finW _ (weak_nlB (o := 48) (k := 2) 2 rfl rfl) ?_)
    exact fin0
  rw [show cmtS p s o lock = donT (cmtT p s o lock) by unfold cmtS; rw [if_neg (by simpa using c), if_neg (by rintro (q | q); exact q c2; exact c3 q)]]
  simp [List.take_append, List.drop_append, List.take_of_length_le, List.drop_of_length_le, lp, hz_len, hl, tp, hc_t32 hl, -errV_0]
  simp only [mkfold]
  refine call0 (BOuts_ok p s o lock hp hl c2 hs k1 k2 k3 k4) (by simp [MKv]) ?_
  rintro y H' ⟨rfl, rfl⟩
  refine ⟨.inl (by simp), le_ok rfl, ?_⟩
  have t33 := pm_33 h1
  have hD := BDone_ok (cmtT p s o lock) (cmtT_ok hp hs hl c)
  have hD' : ECalls Tryz.prog 47 [.v (.agg [iC 0, .fz (.sl 35 [(hf p.tx ++ [iF p.n, iF 0]) ++ [.lit (.slice none 0 0)]]), .fz (.sl 2 (outv (outsB p s o lock)))])] [] _ := ecalls_nlI (by rw [List.append_assoc]; exact hD)
  simp [lp, t33, iC, drop33i, h1, frzAll_hc, -errV_0]
  refine call0 hD' (by simp [iC, iF]) ?_
  rintro y H' ⟨rfl, rfl⟩
  refine ⟨.inl (by simp [txC, iC]), le_ok rfl, ?_⟩
  simp [txC, iC, -errV_0]
  exact fin0
end Go.Proofs.YtflcfdeanneoeaaGreatDoor
