import Derived.Test.YtflcfdeanneoeaaGreatDoorAll19
namespace Go.Proofs.YtflcfdeanneoeaaGreatDoor
open Go Go.EW
set_option linter.unusedSimpArgs false
set_option linter.unusedVariables false
@[simp] def l_BuildCloses_1 (_ : Unit) : List EOp := [xQ 0 2 (.box 28 (.t 0)), xQ 1 3 (.box 32 (.t 1)), xQ 2 4 (.mov (.k (.bool false)))]
@[simp] def b_BuildCloses_2 (_ : Unit) : EB := reg0 (hid l_BuildCloses_1) 3
@[simp] def l_BuildCloses_3 (_ : Unit) : List EOp := [xQ 0 9 (.lda 5 (.t 3)), xO 1 10 (.call 11 [(.t 9)])]
@[simp] def b_BuildCloses_4 (_ : Unit) : EB := reg0 (hid l_BuildCloses_3) 2
@[simp] def l_BuildCloses_5 (_ : Unit) : List EOp := [xO 0 11 (.call 12 []), xM 1 4 11]
@[simp] def b_BuildCloses_6 (_ : Unit) : EB := reg0 (hid l_BuildCloses_5) 2
@[simp] def l_BuildCloses_11 (_ : Unit) : List EOp := [xM 5 12 17, xQ 6 18 (.ext 0 (.t 12)), xQ 7 19 (.ext 1 (.t 12)), ⟨9, none, none, (.fz (.sto 3 (.t 5) (.t 18))), [7]⟩, xM 10 6 19]
@[simp] def l_BuildCloses_10 (_ : Unit) : List EOp := xQ 0 13 (.lda 38 (.t 2)) :: xQ 2 15 (.lda 5 (.t 3)) :: xQ 8 5 (.alloc 63 [(.int .i64 0), (.slice none 0 0), (.slice none 0 0)]) :: ⟨1, (some 14), none, (.call 14 [(.t 13)]), [2, 8]⟩ :: ⟨3, (some 16), none, (.call 15 [(.t 15)]), [8]⟩ :: ⟨4, (some 17), none, (.call 23 [(.t 14), (.t 16)]), [8]⟩ :: hid l_BuildCloses_11
@[simp] def l_BuildCloses_14 (_ : Unit) : List EOp := [xQ 6 7 (.alloc 69 [(.int .i64 0), (.slice none 0 0), (.slice none 0 0)]), xN 7 (.fz (.sto 3 (.t 7) (.t 24))), xM 8 8 25]
@[simp] def l_BuildCloses_13 (_ : Unit) : List EOp := xQ 0 21 (.lda 38 (.t 2)) :: xQ 1 22 (.lda 5 (.t 3)) :: xO 2 23 (.call 24 [(.t 21), (.t 22)]) :: xM 3 20 23 :: xQ 4 24 (.ext 0 (.t 20)) :: xQ 5 25 (.ext 1 (.t 20)) :: hid l_BuildCloses_14
@[simp] def l_BuildCloses_17 (_ : Unit) : List EOp := [⟨6, (some 32), (some (31, true)), (.call 12 []), []⟩, xQ 7 33 (.pick (.t 31) (.t 32) (.k (.bool false))), xM 8 4 33]
@[simp] def l_BuildCloses_16 (_ : Unit) : List EOp := xQ 0 26 (.lda 3 (.t 5)) :: xM 1 27 6 :: xQ 2 28 (.lda 3 (.t 7)) :: xM 3 29 8 :: xO 4 30 (.call 22 [(.t 26), (.t 27), (.t 28), (.t 29)]) :: xM 5 31 30 :: hid l_BuildCloses_17
end Go.Proofs.YtflcfdeanneoeaaGreatDoor
namespace Go.Proofs.YtflcfdeanneoeaaGreatDoor
open Go Go.EW
set_option linter.unusedSimpArgs false
set_option linter.unusedVariables false
@[simp] def l_BuildFunds_1 (_ : Unit) : List EOp := [xQ 0 3 (.box 28 (.t 0)), xQ 1 4 (.box 32 (.t 1)), xQ 2 5 (.box 69 (.t 2)), xQ 3 6 (.mov (.k (.bool false)))]
@[simp] def b_BuildFunds_2 (_ : Unit) : EB := reg0 (hid l_BuildFunds_1) 4
@[simp] def l_BuildFunds_3 (_ : Unit) : List EOp := [xQ 0 18 (.lda 5 (.t 4)), xO 1 19 (.call 11 [(.t 18)]), xM 2 20 19, xG 3 21 20 false (.lda 3 (.t 5)), ⟨4, (some 22), (some (20, false)), (.call 25 [(.t 21)]), []⟩, xQ 5 23 (.pick (.t 20) (.k (.bool true)) (.t 22))]
@[simp] def b_BuildFunds_4 (_ : Unit) : EB := reg0 (hid l_BuildFunds_3) 6
@[simp] def l_BuildFunds_5 (_ : Unit) : List EOp := [xO 0 24 (.call 12 []), xM 1 6 24]
@[simp] def b_BuildFunds_6 (_ : Unit) : EB := reg0 (hid l_BuildFunds_5) 2
@[simp] def b_BuildFunds_7 (_ : Unit) : EB := .seq (hid b_BuildFunds_6) .ret
@[simp] def b_BuildFunds_8 (_ : Unit) : EB := .cond (.t 23) (hid b_BuildFunds_7) .skip
@[simp] def b_BuildFunds_9 (_ : Unit) : EB := .seq (hid b_BuildFunds_4) (hid b_BuildFunds_8)
@[simp] def l_BuildFunds_10 (_ : Unit) : List EOp := [xQ 0 7 (.mov (.k (.slice none 0 0)))]
@[simp] def b_BuildFunds_11 (_ : Unit) : EB := reg0 (hid l_BuildFunds_10) 1
@[simp] def l_BuildFunds_12 (_ : Unit) : List EOp := [xQ 0 8 (.mov (.k (.slice none 0 0)))]
@[simp] def b_BuildFunds_13 (_ : Unit) : EB := reg0 (hid l_BuildFunds_12) 1
@[simp] def l_BuildFunds_14 (_ : Unit) : List EOp := [xQ 0 9 (.mov (.k (.int .i64 0)))]
@[simp] def b_BuildFunds_15 (_ : Unit) : EB := reg0 (hid l_BuildFunds_14) 1
@[simp] def l_BuildFunds_16 (_ : Unit) : List EOp := [xM 0 25 9, xQ 1 26 (.fad 1 (.t 5)), xQ 2 27 (.ldc (.t 26)), xQ 3 28 (.len (.t 27)), xQ 4 29 (.bin .lss (.t 25) (.t 28))]
@[simp] def b_BuildFunds_17 (_ : Unit) : EB := reg0 (hid l_BuildFunds_16) 5
@[simp] def b_BuildFunds_18 (_ : Unit) : EB := .cond (.t 29) .skip (.exit 0)
@[simp] def b_BuildFunds_19 (_ : Unit) : EB := .seq (hid b_BuildFunds_17) (hid b_BuildFunds_18)
@[simp] def l_BuildFunds_21 (_ : Unit) : List EOp := [xQ 6 38 (.lda 33 (.t 37)), xQ 7 39 (.bsl 33 (zU8 ++ [(.int .i64 0)]) 1 [(0, (.t 38))]), xO 8 40 (.app 40 33 40 (.t 32) (.t 39)), xM 9 7 40]
@[simp] def l_BuildFunds_20 (_ : Unit) : List EOp := xM 0 32 7 :: xQ 1 33 (.fad 1 (.t 5)) :: xQ 2 34 (.ldc (.t 33)) :: xM 3 35 9 :: xQ 4 36 (.isl 35 (.t 34) (.t 35)) :: xQ 5 37 (.fad 0 (.t 36)) :: hid l_BuildFunds_21
@[simp] def b_BuildFunds_22 (_ : Unit) : EB := reg0 (hid l_BuildFunds_20) 10
@[simp] def l_BuildFunds_24 (_ : Unit) : List EOp := [xQ 6 47 (.lda 33 (.t 46)), xQ 7 48 (.bsl 33 (zU8 ++ [(.int .i64 0)]) 1 [(0, (.t 47))]), xO 8 49 (.app 25 33 40 (.t 41) (.t 48)), xM 9 8 49]
@[simp] def l_BuildFunds_23 (_ : Unit) : List EOp := xM 0 41 8 :: xQ 1 42 (.fad 1 (.t 5)) :: xQ 2 43 (.ldc (.t 42)) :: xM 3 44 9 :: xQ 4 45 (.isl 35 (.t 43) (.t 44)) :: xQ 5 46 (.fad 0 (.t 45)) :: hid l_BuildFunds_24
@[simp] def b_BuildFunds_25 (_ : Unit) : EB := reg0 (hid l_BuildFunds_23) 10
@[simp] def b_BuildFunds_26 (_ : Unit) : EB := .seq (hid b_BuildFunds_22) (hid b_BuildFunds_25)
@[simp] def b_BuildFunds_27 (_ : Unit) : EB := .block 1 (hid b_BuildFunds_26)
@[simp] def l_BuildFunds_28 (_ : Unit) : List EOp := [xM 0 30 9, xQ 1 31 (.bin .add (.t 30) (.k (.int .i64 1))), xM 2 9 31]
@[simp] def b_BuildFunds_29 (_ : Unit) : EB := reg0 (hid l_BuildFunds_28) 3
@[simp] def b_BuildFunds_30 (_ : Unit) : EB := .seq (hid b_BuildFunds_27) (hid b_BuildFunds_29)
@[simp] def b_BuildFunds_31 (_ : Unit) : EB := .seq (hid b_BuildFunds_19) (hid b_BuildFunds_30)
@[simp] def b_BuildFunds_32 (_ : Unit) : EB := .loop (hid b_BuildFunds_31)
@[simp] def b_BuildFunds_33 (_ : Unit) : EB := .block 0 (hid b_BuildFunds_32)
@[simp] def b_BuildFunds_34 (_ : Unit) : EB := .seq (hid b_BuildFunds_15) (hid b_BuildFunds_33)
@[simp] def l_BuildFunds_37 (_ : Unit) : List EOp := [xQ 11 61 (.ext 1 (.t 50)), ⟨13, none, none, (.fz (.sto 3 (.t 10) (.t 60))), [11]⟩, xM 14 11 61]
@[simp] def l_BuildFunds_36 (_ : Unit) : List EOp := xQ 12 10 (.alloc 63 [(.int .i64 0), (.slice none 0 0), (.slice none 0 0)]) :: ⟨6, (some 57), none, (.call 27 [(.t 56)]), [0, 1, 2, 3, 4, 12]⟩ :: xQ 7 58 (.fgc 2 (.t 57)) :: ⟨8, (some 59), none, (.call 26 [(.t 51), (.t 53), (.t 55), (.t 58)]), [12]⟩ :: xM 9 50 59 :: xQ 10 60 (.ext 0 (.t 50)) :: hid l_BuildFunds_37
@[simp] def l_BuildFunds_35 (_ : Unit) : List EOp := xM 0 51 7 :: xQ 1 52 (.fad 34 (.t 3)) :: xQ 2 53 (.lda 2 (.t 52)) :: xQ 3 54 (.fad 33 (.t 3)) :: xQ 4 55 (.ldc (.t 54)) :: xQ 5 56 (.lda 3 (.t 5)) :: hid l_BuildFunds_36
@[simp] def b_BuildFunds_38 (_ : Unit) : EB := reg1 (hid l_BuildFunds_35) 15
@[simp] def l_BuildFunds_41 (_ : Unit) : List EOp := [xN 12 (.fz (.sto 3 (.t 12) (.t 71))), xM 13 13 72]
@[simp] def l_BuildFunds_40 (_ : Unit) : List EOp := xQ 6 69 (.ldc (.t 68)) :: xO 7 70 (.call 28 [(.t 63), (.t 65), (.t 67), (.t 69)]) :: xM 8 62 70 :: xQ 9 71 (.ext 0 (.t 62)) :: xQ 10 72 (.ext 1 (.t 62)) :: xQ 11 12 (.alloc 69 [(.int .i64 0), (.slice none 0 0), (.slice none 0 0)]) :: hid l_BuildFunds_41
@[simp] def l_BuildFunds_39 (_ : Unit) : List EOp := xM 0 63 8 :: xQ 1 64 (.fad 34 (.t 3)) :: xQ 2 65 (.lda 2 (.t 64)) :: xQ 3 66 (.fad 33 (.t 3)) :: xQ 4 67 (.ldc (.t 66)) :: xQ 5 68 (.fad 2 (.t 5)) :: hid l_BuildFunds_40
@[simp] def b_BuildFunds_42 (_ : Unit) : EB := reg0 (hid l_BuildFunds_39) 14
@[simp] def l_BuildFunds_44 (_ : Unit) : List EOp := [xM 5 73 78, xQ 6 79 (.ext 0 (.t 73)), xQ 7 80 (.ext 1 (.t 73)), ⟨9, none, none, (.fz (.sto 3 (.t 14) (.t 79))), [7]⟩, xM 10 15 80]
@[simp] def l_BuildFunds_43 (_ : Unit) : List EOp := xQ 0 74 (.lda 38 (.t 3)) :: xQ 2 76 (.lda 5 (.t 4)) :: xQ 8 14 (.alloc 63 [(.int .i64 0), (.slice none 0 0), (.slice none 0 0)]) :: ⟨1, (some 75), none, (.call 14 [(.t 74)]), [2, 8]⟩ :: ⟨3, (some 77), none, (.call 15 [(.t 76)]), [8]⟩ :: ⟨4, (some 78), none, (.call 23 [(.t 75), (.t 77)]), [8]⟩ :: hid l_BuildFunds_44
@[simp] def b_BuildFunds_45 (_ : Unit) : EB := reg1 (hid l_BuildFunds_43) 11
@[simp] def l_BuildFunds_47 (_ : Unit) : List EOp := [xQ 6 16 (.alloc 69 [(.int .i64 0), (.slice none 0 0), (.slice none 0 0)]), xN 7 (.fz (.sto 3 (.t 16) (.t 85))), xM 8 17 86]
@[simp] def l_BuildFunds_46 (_ : Unit) : List EOp := xQ 0 82 (.lda 38 (.t 3)) :: xQ 1 83 (.lda 5 (.t 4)) :: xO 2 84 (.call 24 [(.t 82), (.t 83)]) :: xM 3 81 84 :: xQ 4 85 (.ext 0 (.t 81)) :: xQ 5 86 (.ext 1 (.t 81)) :: hid l_BuildFunds_47
@[simp] def b_BuildFunds_48 (_ : Unit) : EB := reg0 (hid l_BuildFunds_46) 9
@[simp] def l_BuildFunds_51 (_ : Unit) : List EOp := [xM 12 99 98, ⟨13, (some 100), (some (99, true)), (.call 12 []), []⟩, xQ 14 101 (.pick (.t 99) (.t 100) (.k (.bool false))), xM 15 6 101]
@[simp] def l_BuildFunds_50 (_ : Unit) : List EOp := xG 6 93 92 true (.lda 3 (.t 14)) :: xG 7 94 92 true (.mov (.t 15)) :: xG 8 95 92 true (.lda 3 (.t 16)) :: xG 9 96 92 true (.mov (.t 17)) :: ⟨10, (some 97), (some (92, true)), (.call 22 [(.t 93), (.t 94), (.t 95), (.t 96)]), []⟩ :: xQ 11 98 (.pick (.t 92) (.t 97) (.k (.bool false))) :: hid l_BuildFunds_51
@[simp] def l_BuildFunds_49 (_ : Unit) : List EOp := xQ 0 87 (.lda 3 (.t 10)) :: xM 1 88 11 :: xQ 2 89 (.lda 3 (.t 12)) :: xM 3 90 13 :: xO 4 91 (.call 22 [(.t 87), (.t 88), (.t 89), (.t 90)]) :: xM 5 92 91 :: hid l_BuildFunds_50
@[simp] def b_BuildFunds_52 (_ : Unit) : EB := reg0 (hid l_BuildFunds_49) 16
@[simp] def b_BuildFunds_53 (_ : Unit) : EB := .seq (hid b_BuildFunds_52) .ret
@[simp] def b_BuildFunds_54 (_ : Unit) : EB := .seq (hid b_BuildFunds_48) (hid b_BuildFunds_53)
@[simp] def b_BuildFunds_55 (_ : Unit) : EB := .seq (hid b_BuildFunds_45) (hid b_BuildFunds_54)
@[simp] def b_BuildFunds_56 (_ : Unit) : EB := .seq (hid b_BuildFunds_42) (hid b_BuildFunds_55)
@[simp] def b_BuildFunds_57 (_ : Unit) : EB := .seq (hid b_BuildFunds_38) (hid b_BuildFunds_56)
@[simp] def b_BuildFunds_58 (_ : Unit) : EB := .seq (hid b_BuildFunds_34) (hid b_BuildFunds_57)
@[simp] def b_BuildFunds_59 (_ : Unit) : EB := .seq (hid b_BuildFunds_13) (hid b_BuildFunds_58)
@[simp] def b_BuildFunds_60 (_ : Unit) : EB := .seq (hid b_BuildFunds_11) (hid b_BuildFunds_59)
@[simp] def b_BuildFunds_61 (_ : Unit) : EB := .seq (hid b_BuildFunds_9) (hid b_BuildFunds_60)
@[simp] def b_BuildFunds_62 (_ : Unit) : EB := .seq (hid b_BuildFunds_2) (hid b_BuildFunds_61)
def c_BuildFunds : EB × List QOp × Nat := ((hid b_BuildFunds_62), [(.mov (.t 6))], 102)
theorem k_BuildFunds : cfun Tryz.prog 6 = some c_BuildFunds := by kernel_rfl
set_option maxRecDepth 8000 in
set_option maxHeartbeats 16000000 in
theorem BuildFunds_ok (p : Prm) (s : Sta) (t : Txn) (hp : p.ok) (hs : s.ok) (ht : t.bk) : ECalls Tryz.prog 6 [PVv p, SV s, TXv t] [] fun y H' => H' = [] ∧ y = .lit (.bool true) := by
  have h1 := hp.1
  have lp := prmC_len h1
  have tp := pm_take h1
  refine ecalls k_BuildFunds ?_
  simp [c_BuildFunds, PVv, SV, staC, TXv, txC, I, lp, tp, iC, -errV_0]
  refine call0 (longState_ok s hs) (by simp [SV, staC]) ?_
  rintro y H' ⟨rfl, rfl⟩
  refine ⟨.inl (by simp), le_ok rfl, ?_⟩
  cases hl1 : longS s
  rotate_left
  · simp [-errV_0]
    refine call0 sure_ok (by simp) ?_
    rintro y H' ⟨rfl, rfl⟩
    refine ⟨.inl (by simp), le_ok rfl, ?_⟩
    simp [-errV_0]
    exact fin [] (by decide) rfl rfl rfl ⟨rfl, rfl⟩
  have ms := (longS_small hl1).1
  simp [PVv, SV, staC, TXv, txC, I, lp, tp, iC, -errV_0]
  refine call0 (longTx_ok t ht) (by simp [TXv, txC, iC]) ?_
  rintro y H' ⟨rfl, bb, rfl⟩
  refine ⟨.inl (by simp), le_ok rfl, ?_⟩
  cases bb
  rotate_left
  · simp [-errV_0]
    refine call0 sure_ok (by simp) ?_
    rintro y H' ⟨rfl, rfl⟩
    refine ⟨.inl (by simp), le_ok rfl, ?_⟩
    simp [-errV_0]
    exact fin [] (by decide) rfl rfl rfl ⟨rfl, rfl⟩
  simp [PVv, SV, staC, TXv, txC, I, lp, tp, iC, -errV_0]
  refine loopW _ (weak_nilR 7 40 33 rfl (by omega)) (loopW _ (weak_nilR 8 25 33 rfl (by omega)) ?_)
  obtain ⟨k1, k2, k3, k4, k5⟩ := id ht.1
  have e33 := idx_of (pm_at h1 1) (by omega)
  have d34 := pm_d34 h1
  have hz0 := (rfl : (0 : Nat) = 0)
  refine eloop (α := Nat) (fun i => i ≤ t.ins.length) (fun i => t.ins.length - i)
    (fun i => [.any, .any, .any, Ptr 0, Ptr 1, Ptr 2, .any, .v (.c (.row 3 i)), .v (.c (.row 4 i)), I .i64 i, .any, .any, .any, .any, .any, .any, .any, .any, .any, .any, .any, .any, .any, .any, .any, .any, .any, .any, .any, .any, .any, .any, .any, .any, .any, .any, .any, .any, .any, .any, .any, .any, .any, .any, .any, .any, .any, .any, .any, .any, .any, .any, .any, .any, .any, .any, .any, .any, .any, .any, .any, .any, .any, .any, .any, .any, .any, .any, .any, .any, .any, .any, .any, .any, .any, .any, .any, .any, .any, .any, .any, .any, .any, .any, .any, .any, .any, .any, .any, .any, .any, .any, .any, .any, .any, .any, .any, .any, .any, .any, .any, .any]) (fun i => [some (.box 28 (prmC p)), some (.box 32 (staC s)), some (.box 69 (txC t)), some (.row 40 33 (ptv (t.ins.take i))), some (.row 25 33 (ptv (t.ins.take i)))]) 0 [0, 16, 32, 208, 209]
    (Nat.zero_le _) (by simp [I, Ptr]) (by simp [txC, iC, staC, ptv]) (by simp) (by simp) (by simp) ?_
  intro i hi
  simp [I, Ptr, iC, txC, -Int.natCast_add, -errV_0]
  refine alt (fun hlt => ?_) (fun hlt => ?_)
  · have hln : i < t.ins.length := by omega
    obtain ⟨q, hcp⟩ : ∃ q, t.ins[i]? = some q := ⟨t.ins[i], by simp [hln]⟩
    have hge : (inpv t.ins)[i]'(by simp [hln]) = inpF q := by
      have e := inpv_get hcp
      rw [List.getElem?_eq_getElem (by simp [hln])] at e
      exact Option.some.inj e
    have hpo := k2 q (List.mem_of_getElem? hcp)
    have l0 := ic_len hpo.1
    have l1 := if_len hpo.1
    have tk := ic_take hpo.1
    have tpt := ic_pt hpo.1
    have w1 : IntKind.i64.wrap ((i : Int) + 1) = ((i + 1 : Nat) : Int) := wrap_i64 (by omega) (by omega)
    have hT : ptv (t.ins.take (i + 1)) = ptv (t.ins.take i) ++ [ptF q] := by rw [List.take_add_one, hcp]; simp [ptv]
    have hTl : (t.ins.take i).length = i := by simp; omega
    simp [hln, hge, inpF_fz, l0, l1, tk, tpt, hTl, w1, frzAll_hc, hpo.1, iC, -Int.natCast_add, -errV_0]
    refine ⟨⟨by omega, by omega⟩, ?_⟩
    exact round (i + 1) [0, 1, 2, 213, 373] (by omega) (by omega) (by simp [I, Ptr, -Int.natCast_add]) (by simp [hT, ptF, iF, iC, txC, staC]) (by simp) (by simp) (by simp)
  have hil : i = t.ins.length := by omega
  subst hil
  simp [lp, tp, e33, d34, iC, txC, -errV_0]
  refine call0 (giveTx_ok t ht) (by simp [TXv, txC, iC]) ?_
  rintro y H' ⟨rfl, rfl⟩
  refine ⟨.inl (by simp [TXv, txC, iC]), le_ok rfl, ?_⟩
  simp [TXv, txC, iC, lp, e33, d34, -errV_0]
  have hF := BFund_ok t p.k0 p.k1 p.am ht hp.2.2.2.1 hp.2.2.2.2.1 hp.2.2.1
  have hG := RBFund_ok t p.k0 p.k1 p.am ht hp.2.2.2.1 hp.2.2.2.2.1 hp.2.2.1
  obtain ⟨hfo, hfs⟩ := donT_okS (fndT_ok (a := p.k0) (b := p.k1) (am := p.am) ht.1 (by have := ht.2.2.1; omega) hp.2.2.2.1 hp.2.2.2.2.1 hp.2.2.1)
  generalize donT (fndT t p.k0 p.k1 p.am) = q1 at hF hG hfo hfs
  obtain ⟨u, eu⟩ := q1
  dsimp only at hF hG hfo hfs
  have hFt : ECalls Tryz.prog 26 [.v (.c (.row 0 t.ins.length)), .v (.agg [iC p.k0, iC p.k1]), I .i64 p.am, OUL t.outs] [.row 40 33 (ptv t.ins)] (fun y H' => H' = [none] ∧ y = .tup [.agg (txC u), .c (.fz (.lit (errV eu)))]) :=
    ecalls_thaw hF (by simp [PTL, OUL, I, iC, List.take_of_length_le])
  have hGt : ECalls Tryz.prog 28 [.v (.c (.row 0 t.ins.length)), .v (.agg [iC p.k0, iC p.k1]), I .i64 p.am, OUL t.outs] [.row 25 33 (ptv t.ins)] (fun y H' => H' = [none] ∧ y = .tup [.agg (txC u), .c (.fz (.lit (.int .i64 eu)))]) :=
    ecalls_thaw hG (by simp [PTL, OUL, I, iC, List.take_of_length_le])
  refine callH [3] hFt (by simp [iC, OUL, I]) (by simp) (by simp) (by simp) (by simp) ?_
  rintro y H' ⟨rfl, rfl⟩
  refine ⟨.inl (by simp [OUL]), by simp, ?_⟩
  simp [txC, iC, lp, e33, d34, -errV_0]
  refine callH [4] hGt (by simp [iC, OUL, I]) (by simp) (by simp) (by simp) (by simp) ?_
  rintro y H' ⟨rfl, rfl⟩
  refine ⟨.inl (by simp [OUL]), by simp, ?_⟩
  simp [txC, iC, lp, tp, SV, staC, -errV_0]
  refine call0 (giveP_ok p h1) (by simp [PVv]) ?_
  rintro y H' ⟨rfl, rfl⟩
  refine ⟨.inl (by simp [PVv]), le_ok rfl, ?_⟩
  simp [PVv, SV, staC, I, lp, tp, iC, txC, -errV_0]
  refine call0 (giveState_ok s hs ms) (by simp [SV, staC]) ?_
  rintro y H' ⟨rfl, rfl⟩
  refine ⟨.inl (by simp [SV, staC]), le_ok rfl, ?_⟩
  simp [PVv, SV, staC, I, lp, tp, iC, txC, -errV_0]
  have hB := BClose_ok p s hp hs
  have hR := RBClose_ok p s hp hs
  obtain ⟨hco, hcs⟩ := cloB_ok (p := p) (s := s) hp hs
  generalize cloB p s = q at hB hR hco hcs
  obtain ⟨v, ec⟩ := q
  dsimp only at hB hR hco hcs
  refine call0 hB (by simp [PVv, SV, staC]) ?_
  rintro y H' ⟨rfl, rfl⟩
  refine ⟨.inl (by simp [txC, iC]), le_ok rfl, ?_⟩
  simp [PVv, SV, staC, I, lp, tp, iC, txC, -errV_0]
  refine call0 hR (by simp [PVv, SV, staC]) ?_
  rintro y H' ⟨rfl, rfl⟩
  refine ⟨.inl (by simp [txC, iC]), le_ok rfl, ?_⟩
  simp [PVv, SV, staC, I, lp, tp, iC, txC, -errV_0]
  refine call0 (same_ok u eu hfo hfs) (by simp [TXv, txC, iC, I]) ?_
  rintro y H' ⟨rfl, rfl⟩
  refine ⟨.inl (by simp), le_ok rfl, ?_⟩
  simp [I, iC, txC, -errV_0]
  refine call0 (same_ok v ec hco hcs) (by simp [TXv, txC, iC, I]) ?_
  rintro y H' ⟨rfl, rfl⟩
  refine ⟨.inl (by simp), le_ok rfl, ?_⟩
  simp [-errV_0]
  refine call0 sure_ok (by simp) ?_
  rintro y H' ⟨rfl, rfl⟩
  refine ⟨.inl (by simp), le_ok rfl, ?_⟩
  simp [-errV_0]
  exact fin [] (by decide) rfl rfl rfl ⟨rfl, rfl⟩
end Go.Proofs.YtflcfdeanneoeaaGreatDoor
