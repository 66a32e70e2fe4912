import Derived.Test.YtflcfdeanneoeaaGreatDoorAll20
import Derived.Test.YtflcfdeanneoeaaGreatDoorAll15
import Derived.Test.YtflcfdeanneoeaaGreatDoorAll18
import Derived.Test.YtflcfdeanneoeaaGreatDoorAll6
set_option maxHeartbeats 64000000
namespace Go.Proofs.YtflcfdeanneoeaaGreatDoor
open Go Go.EW
set_option linter.unusedSimpArgs false
set_option linter.unusedVariables false
@[simp] def yl14a : UL | _ => [xQ 0 4 (.box 63 (.t 0)), xQ 1 8 (.alloc 63 [xZ, xS, xS]), xQ 2 9 (.mov (.k .nilIface))]
@[simp] def yl14b : UL | _ => [xQ 6 24 (.pick (.t 21) (.k (.bool true)) (.t 23)), xM 7 25 24, xG 8 26 25 false (.mov (.t 3)), xG 9 27 25 false (.bin .gtr (.t 26) (xK 1125899906842624)), xQ 10 28 (.pick (.t 25) (.k (.bool true)) (.t 27)), xM 11 17 28]
@[simp] def yl14c : UL | _ => xM 0 18 1 :: xQ 1 19 (.len (.t 18)) :: xQ 2 20 (.bin .eql (.t 19) (xK 0)) :: xM 3 21 20 :: xG 4 22 21 false (.mov (.t 3)) :: xG 5 23 21 false (.bin .lss (.t 22) (xK 0)) :: hid yl14b
@[simp] def yl14d : UL | _ => [xQ 0 29 (.build [xZ, xS, xS] []), xQ 1 30 (.mki 120 (xK 1)), xN 2 (.fz (.sto 3 (.t 8) (.t 29))), xM 3 9 30]
@[simp] def yl14e : UL | _ => [xM 0 32 2, xO 1 33 (.call 50 [(.t 32)]), xQ 2 34 (.un .not (.t 33)), xM 3 31 34]
@[simp] def yl14f : UL | _ => [xQ 0 35 (.build [xZ, xS, xS] []), xQ 1 36 (.mki 120 (xK 33)), xN 2 (.fz (.sto 3 (.t 8) (.t 35))), xM 3 9 36]
@[simp] def yl14g : UL | _ => [xM 0 38 1, xQ 1 39 (.mkf 71 [(.t 4)]), xO 2 40 (.call 70 [(.t 38), (.t 39)]), xM 3 37 40]
@[simp] def yl14h : UL | _ => [xQ 0 41 (.build [xZ, xS, xS] []), xQ 1 42 (.mki 120 (xK 4)), xN 2 (.fz (.sto 3 (.t 8) (.t 41))), xM 3 9 42]
@[simp] def yb14i : UB | _ => .seq (reg0 (hid yl14g) 4) (.cond (.t 37) (.seq (reg0 (hid yl14h) 4) .ret) .skip)
@[simp] def yb14j : UB | _ => .seq (reg0 (hid yl14e) 4) (.cond (.t 31) (.seq (reg0 (hid yl14f) 4) .ret) (hid yb14i))
@[simp] def yb14k : UB | _ => .seq (reg0 (hid yl14c) 12) (.cond (.t 17) (.seq (reg0 (hid yl14d) 4) .ret) (hid yb14j))
@[simp] def yl14l : UL | _ => [xQ 0 10 (.alloc 63 [xZ, xS, xS]), xQ 1 11 (.alloc 63 [xZ, xS, xS])]
@[simp] def yl14m : UL | _ => [xQ 0 43 (.lda 3 (.t 4)), xO 1 44 (.call 40 [(.t 43)]), xQ 2 12 (.alloc 23 zU8), xN 3 (.sto 32 (.t 12) (.t 44))]
@[simp] def yl14n : UL | _ => [xM 0 45 1, xQ 1 46 (.len (.t 45)), xQ 2 47 (.mov (xK 0))]
@[simp] def yl14o : UL | _ => [xQ 0 48 (.bin .lss (.t 47) (.t 46))]
@[simp] def yl14p : UL | _ => [xQ 0 49 (.isl 3 (.t 45) (.t 47)), xQ 1 50 (.lda 3 (.t 49)), xQ 2 14 (.alloc 105 [xZ, xZ, xS]), xN 3 (.fz (.sto 3 (.t 14) (.t 50)))]
@[simp] def yl14q : UL | _ => [⟨12, (some 63), none, (.fz (.q (.bsl 35 (zU8 ++ [xZ, xZ, xS]) 1 [(0, (.t 62))]))), [0, 1]⟩, xO 13 64 (.app 135 35 72 (.t 52) (.t 63)), xQ 14 65 (.fad 1 (.t 10)), xN 15 (.fz (.sto 1 (.t 65) (.t 64)))]
@[simp] def yl14r : UL | _ => xQ 6 57 (.fad 1 (.t 14)) :: xQ 7 58 (.ldc (.t 57)) :: xQ 8 59 (.fad 2 (.t 14)) :: xQ 9 60 (.ldc (.t 59)) :: ⟨10, (some 61), none, (.call 72 [(.t 60)]), [0, 1, 2, 3, 4, 5, 6, 7]⟩ :: xQ 11 62 (.build (zU8 ++ [xZ, xZ, xS]) [(0, 33, (.t 56)), (33, 1, (.t 58)), (34, 1, (.t 61))]) :: hid yl14q
@[simp] def yl14s : UL | _ => xQ 0 51 (.fad 1 (.t 10)) :: xQ 1 52 (.ldc (.t 51)) :: xQ 2 53 (.lda 32 (.t 12)) :: xQ 3 54 (.fad 0 (.t 14)) :: xQ 4 55 (.ldc (.t 54)) :: xQ 5 56 (.build (zU8 ++ [xZ]) [(0, 32, (.t 53)), (32, 1, (.t 55))]) :: hid yl14r
@[simp] def yl14t : UL | _ => [xQ 6 72 (.isl 2 (.t 69) (.t 71)), xQ 7 73 (.lda 2 (.t 72)), ⟨8, (some 74), none, (.fz (.q (.bsl 2 [xZ, xS] 1 [(0, (.t 73))]))), [0, 1]⟩, xO 9 75 (.app 118 2 32 (.t 67) (.t 74)), xQ 10 76 (.fad 2 (.t 11)), xN 11 (.fz (.sto 1 (.t 76) (.t 75)))]
@[simp] def yl14u : UL | _ => xQ 0 66 (.fad 2 (.t 11)) :: xQ 1 67 (.ldc (.t 66)) :: xQ 2 68 (.fad 2 (.t 4)) :: xQ 3 69 (.ldc (.t 68)) :: xQ 4 70 (.fad 0 (.t 14)) :: xQ 5 71 (.ldc (.t 70)) :: hid yl14t
@[simp] def yb14v : UB | _ => .seq (reg0 (hid yl14p) 4) (.seq (reg1 (hid yl14s) 16) (reg1 (hid yl14u) 12))
@[simp] def yl14w : UL | _ => [xQ 0 77 (.bin .add (.t 47) (xK 1)), xM 1 47 77]
@[simp] def yb14x : UB | _ => .seq (.cond (.t 48) .skip (.exit 1)) (.seq (.block 2 (hid yb14v)) (reg0 (hid yl14w) 2))
@[simp] def yb14y : UB | _ => .seq (reg0 (hid yl14n) 3) (.block 1 (.loop (.seq (reg0 (hid yl14o) 1) (hid yb14x))))
@[simp] def yl14z : UL | _ => [xM 6 16 82]
@[simp] def yl150 : UL | _ => xQ 0 79 (.lda 3 (.t 11)) :: xO 1 80 (.call 73 [(.t 79)]) :: xM 2 78 80 :: xQ 3 81 (.ext 0 (.t 78)) :: xQ 4 82 (.ext 1 (.t 78)) :: xM 5 15 81 :: hid yl14z
@[simp] def yl151 : UL | _ => [xM 0 83 16, xQ 1 84 (.eqi true (.t 83))]
@[simp] def yl152 : UL | _ => [xQ 0 85 (.build [xZ, xS, xS] []), xM 1 86 16, xN 2 (.fz (.sto 3 (.t 8) (.t 85))), xM 3 9 86]
@[simp] def yb153 : UB | _ => .seq (reg0 (hid yl151) 2) (.cond (.t 84) (.seq (reg0 (hid yl152) 4) .ret) .skip)
@[simp] def yl154 : UL | _ => [xQ 6 93 (.build [xZ, xS] [(0, 1, (.t 89)), (1, 1, (.t 92))]), xO 7 94 (.fz (.q (.bsl 2 [xZ, xS] 1 [(0, (.t 93))]))), xQ 8 95 (.fad 2 (.t 10)), xN 9 (.fz (.sto 1 (.t 95) (.t 94)))]
@[simp] def yl155 : UL | _ => xM 0 87 15 :: xM 1 88 3 :: xQ 2 89 (.bin .sub (.t 87) (.t 88)) :: xM 3 90 2 :: xQ 4 91 (.bsl 1 [xZ] 1 [(0, (.t 90))]) :: xO 5 92 (.call 57 [(.t 91)]) :: hid yl154
@[simp] def yl156 : UL | _ => [xQ 0 96 (.lda 3 (.t 10)), xO 1 97 (.call 47 [(.t 96)]), xQ 2 98 (.ext 0 (.t 97)), xQ 3 99 (.ext 1 (.t 97)), xN 4 (.fz (.sto 3 (.t 8) (.t 98))), xM 5 9 99]
@[simp] def yb157 : UB | _ => .seq (reg0 (hid yl155) 10) (.seq (reg0 (hid yl156) 6) .ret)
@[simp] def yb158 : UB | _ => .seq (reg0 (hid yl150) 7) (.seq (hid yb153) (hid yb157))
@[simp] def yb159 : UB | _ => .seq (reg0 (hid yl14m) 4) (.seq (hid yb14y) (hid yb158))
@[simp] def yb15a : UB | _ => .seq (.block 0 (hid yb14k)) (.seq (reg0 (hid yl14l) 2) (hid yb159))
@[simp] def yb15b : UB | _ => .seq (reg0 (hid yl14a) 3) (hid yb15a)
def c_BClaim : EB × List QOp × Nat := ((hid yb15b), [(.lda 3 (.t 8)), (.mov (.t 9))], 100)
theorem k_BClaim : cfun Tryz.prog 38 = some c_BClaim := by kernel_rfl
theorem clmA_snoc (t : Txn) (l : List Usx) (u : Usx) : clmA t (l ++ [u]) = clmA t l ++ [t.outs[u.o]?.getD ⟨0, []⟩] := by simp [clmA]
theorem clmI_snoc (t : Txn) (l : List Usx) (u : Usx) : clmI t (l ++ [u]) = clmI t l ++ [⟨sumS (encT t), u.o, u.b, u.sec⟩] := by simp [clmI]
@[simp] theorem clmA_len (t : Txn) (l : List Usx) : (clmA t l).length = l.length := by simp [clmA]
@[simp] theorem clmI_len (t : Txn) (l : List Usx) : (clmI t l).length = l.length := by simp [clmI]
set_option maxRecDepth 8000 in
theorem BClaim_ok (t : Txn) (l : List Usx) (who fee : Int) (ht : t.ok) (hse : ∀ x ∈ t.ins, x.sec = []) (hs : (encT t).length ≤ 100000000) (hl : ∀ u ∈ l, u.ok t.outs.length) (hn : t.outs.length ≤ 100) (hn2 : l.length ≤ 100) (hw : i64 who) :
    ECalls Tryz.prog 38 [TXv t, USL l, I .i64 who, I .i64 fee] [] fun y H' => H' = [] ∧ y = .tup [.agg (txC (clmS t l who fee).1), .c (.fz (.lit (errV (clmS t l who fee).2)))] := by
  obtain ⟨h1, h2, h3, h4, h5⟩ := id ht
  refine ecalls k_BClaim ?_
  simp [c_BClaim, TXv, txC, USL, I, iC, -errV_0]
  by_cases c1 : l = []
  · subst c1
    rw [show clmS t [] who fee = (zTx, 1) from if_pos (.inl rfl)]
    simp [-errV_0]
    refine finW _ (weak_nlB (o := 16) (k := 1) 35 rfl rfl) (finW _ (weak_nlB (o := 16) (k := 2) 2 rfl rfl) ?_)
    exact fin0
  have c1' : ¬ l.length = 0 := by rw [List.length_eq_zero_iff]; exact c1
  by_cases c2 : fee < 0
  · rw [show clmS t l who fee = (zTx, 1) from if_pos (.inr (.inl c2))]
    simp [c1, c1', c2, -errV_0]
    refine finW _ (weak_nlB (o := 16) (k := 1) 35 rfl rfl) (finW _ (weak_nlB (o := 16) (k := 2) 2 rfl rfl) ?_)
    exact fin0
  by_cases c3 : 1125899906842624 < fee
  · rw [show clmS t l who fee = (zTx, 1) from if_pos (.inr (.inr c3))]
    simp [c1, c1', c2, c3, -errV_0]
    refine finW _ (weak_nlB (o := 16) (k := 1) 35 rfl rfl) (finW _ (weak_nlB (o := 16) (k := 2) 2 rfl rfl) ?_)
    exact fin0
  simp [c1, c1', c2, c3, -errV_0]
  refine call0 (BParty_ok who) (by simp [I]) ?_
  rintro y H' ⟨rfl, rfl⟩
  refine ⟨.inl (by simp), le_ok rfl, ?_⟩
  by_cases c4 : 0 ≤ who ∧ who < 16
  rotate_left
  · rw [show clmS t l who fee = (zTx, 33) by unfold clmS; rw [if_neg (by simp [c1]; omega), if_pos c4]]
    simp [c4, -errV_0]
    refine finW _ (weak_nlB (o := 16) (k := 1) 35 rfl rfl) (finW _ (weak_nlB (o := 16) (k := 2) 2 rfl rfl) ?_)
    exact fin0
  simp [c4, -errV_0]
  refine callH [0] (ConU_ok t l hl (by omega) (by omega)) (by simp [USL]) (by simp [BTx, txC, iC]) (by simp) (by simp) (by simp) ?_
  rintro y H' ⟨rfl, rfl⟩
  refine ⟨.inl (by simp), by simp, ?_⟩
  simp [BTx, txC, iC, -errV_0]
  refine call0 (TxID_ok t ht hse hs) (by simp [TXv, txC, iC]) ?_
  rintro y H' ⟨rfl, rfl⟩
  refine ⟨.inl (by simp), by simp, ?_⟩
  have hsl := sumS_len (encT t)
  have hst : List.take 32 (sumS (encT t)) = sumS (encT t) := List.take_of_length_le (by omega)
  have d33 : ∀ a : EC, List.drop 33 (hc (sumS (encT t)) ++ [a]) = [] := fun a => by rw [List.drop_eq_nil_iff]; simp [hsl]
  have d32 : List.drop 32 (hc hz) = [] := rfl
  simp [hsl, d32, -errV_0]
  refine loopW _ (weak_nil (o := 368) (k := 1) (ty := 135) (es := 35) rfl rfl (by omega)) (loopW _ (weak_nil (o := 384) (k := 1) (ty := 135) (es := 35) rfl rfl (by omega)) (loopW _ (weak_nil (o := 384) (k := 2) (ty := 118) (es := 2) rfl rfl (by omega)) ?_))
  refine eloop (α := Nat) (fun i => i ≤ l.length) (fun i => l.length - i)
    (fun i => [xA, xA, I .i64 who, I .i64 fee, Ptr 0, xA, xA, xA, Ptr 1, xA, Ptr 2, Ptr 3, Ptr 4, xA, xA, xA, xA, xA, xA, xA, xA, xA, xA, xA, xA, xA, xA, xA, xA, xA, xA, xA, xA, xA, xA, xA, xA, xA, xA, xA, xA, xA, xA, xA, xA, USL l, I .i64 l.length, I .i64 i, xA, xA, xA, xA, xA, xA, xA, xA, xA, xA, xA, xA, xA, xA, xA, xA, xA, xA, xA, xA, xA, xA, xA, xA, xA, xA, xA, xA, xA, xA, xA, xA, xA, xA, xA, xA, xA, xA, xA, xA, xA, xA, xA, xA, xA, xA, xA, xA, xA, xA, xA, .any])
    (fun i => [some (.box 63 (txC t)), some (.box 63 [iC 0, .fz (.lit (.slice none 0 0)), .fz (.lit (.slice none 0 0))]), some (.box 63 [iC 0, .row 5 i, .fz (.lit (.slice none 0 0))]), some (.box 63 [iC 0, .row 6 0, .row 7 i]), some (.box 23 (hc (sumS (encT t)))), some (.row 135 35 (inpv (clmI t (l.take i)))), some (.row 135 35 []), some (.row 118 2 (outv (clmA t (l.take i))))]) 0 [0, 16, 368, 384, 432, 512, 513, 514]
    (Nat.zero_le _) (by simp [I, Ptr, USL]) (by simp [iC, txC, inpv, outv, clmI, clmA]) (by simp) (by simp) (by simp) ?_
  intro i hi
  simp [I, Ptr, iC, txC, USL, -Int.natCast_add, -errV_0]
  refine alt (fun hlt => ?_) (fun hlt => ?_)
  · have hln : i < l.length := by omega
    obtain ⟨q, hcq⟩ : ∃ q, l[i]? = some q := ⟨l[i], by simp [hln]⟩
    have hge : (usev l)[i]'(by simp [hln]) = useF q := gE (usev_get hcq)
    have hqo := hl q (List.mem_of_getElem? hcq)
    obtain ⟨x, hcx⟩ : ∃ x, t.outs[q.o]? = some x := ⟨t.outs[q.o]'hqo.1, by simp [hqo.1]⟩
    have hgx : (outv t.outs)[q.o]'(by simp [hqo.1]) = outF x := gE (outv_get hcx)
    have hul : (useC q).length = 3 := rfl
    have hfl : (useF q).length = 3 := rfl
    have hut : (useC q).take 3 = useC q := rfl
    have w1 := wS (i := i) (by omega)
    have hT : inpv (clmI t (l.take (i + 1))) = inpv (clmI t (l.take i)) ++ [inpF ⟨sumS (encT t), q.o, q.b, q.sec⟩] := by rw [List.take_add_one, hcq]; simp [clmI_snoc, inpv]
    have hU : outv (clmA t (l.take (i + 1))) = outv (clmA t (l.take i)) ++ [outF x] := by rw [List.take_add_one, hcq]; simp [clmA_snoc, outv, hcx]
    have hTl : (l.take i).length = i := by simp; omega
    have tks : List.take q.sec.length (bsv q.sec) = bsv q.sec := List.take_of_length_le (by simp)
    simp [hln, hge, useF_fz, hul, hfl, hut, iC, -Int.natCast_add, -errV_0]
    simp [useC, hsl, d32, drop33i, drop33z, iC, -Int.natCast_add, -errV_0]
    refine call0 (clone_ok q.sec (by have := hqo.2.2; omega)) (by simp [Bs]) ?_
    rintro y H' ⟨rfl, rfl⟩
    refine ⟨.inl (by simp [Bs]), le_ok rfl, ?_⟩
    simp [R, RO, hsl, hst, d33, d32, tks, hTl, hqo.1, hgx, outF, iF, w1, drop33i, drop33z, frzAll_hc, tk33x hsl, tk34x hsl, dr34x hsl, dr35x hsl, iC, -Int.natCast_add, -errV_0]
    refine ⟨⟨by omega, by omega⟩, ⟨by omega, by omega⟩, ?_⟩
    exact round (i + 1) [0, 1, 2, 3, 4, 296, 6, 488] (by omega) (by omega) (by simp [I, Ptr, USL, -Int.natCast_add]) (by simp [hT, hU, inpF, outF, iF, iC, txC]) (by simp) (by simp) (by simp)
  have hil : i = l.length := by omega
  subst hil
  simp [-errV_0]
  have hTA := TxTotal_ok ⟨0, [], clmA t l⟩ ⟨by simp [i64], by simp, clmA_ok ht, by simp, by simp; omega⟩
  have hTT : ECalls Tryz.prog 73 [.v (.agg [iC 0, .row 0 0, .row 1 l.length])] [.row 135 35 [], .row 118 2 (outv (clmA t l))] (fun y H' => H' = [none, none] ∧ y = .tup [.c (iC (totO 0 (clmA t l)).1), .c (.fz (.lit (errV (totO 0 (clmA t l)).2)))]) :=
    ecalls_thaw2 hTA (by simp [TXv, txC, inpv, iC, List.take_of_length_le])
  refine callH [6, 7] hTT (by simp [iC]) (by simp) (by simp) (by simp) (by simp) ?_
  rintro y H' ⟨rfl, rfl⟩
  refine ⟨.inl (by simp), by simp, ?_⟩
  obtain ⟨q1, q2⟩ := totO_le (clmA t l) 0 (by omega) (by omega)
  have wn : IntKind.i64.wrap ((totO 0 (clmA t l)).1 - fee) = (totO 0 (clmA t l)).1 - fee := wrap_i64 (by omega) (by omega)
  by_cases ce : (totO 0 (clmA t l)).2 = 0
  rotate_left
  · rw [show clmS t l who fee = (zTx, (totO 0 (clmA t l)).2) by unfold clmS; rw [if_neg (by simp [c1]; omega), if_neg (by simpa using c4), if_pos ce]]
    simp [ce, iC, -errV_0]
    refine finW _ (weak_nlB (o := 1) (k := 1) 35 rfl rfl) (finW _ (weak_nlB (o := 1) (k := 2) 2 rfl rfl) ?_)
    exact fin0
  rw [show clmS t l who fee = donT (clmT t l who fee) by unfold clmS; rw [if_neg (by simp [c1]; omega), if_neg (by simpa using c4), if_neg (by simpa using ce)]]
  simp [ce, iC, -errV_0]
  refine call0 (PAll_ok [who] (keys_one _).1) (by simp [IL, intv]) ?_
  rintro y H' ⟨rfl, rfl⟩
  refine ⟨.inl (by simp [CNv]), le_ok rfl, ?_⟩
  simp [CNv, wn, iC, -errV_0]
  have hDT : ECalls Tryz.prog 47 [.v (.agg [iC 0, .row 0 l.length, .fz (.sl 2 (outv (clmT t l who fee).outs))])] [.row 135 35 (inpv (clmI t l))] (fun y H' => H' = [none] ∧ y = .tup [.agg (txC (donT (clmT t l who fee)).1), .c (.fz (.lit (errV (donT (clmT t l who fee)).2)))]) :=
    ecalls_thaw (BDone_ok (clmT t l who fee) (clmT_ok ht hn hl hn2 (by omega) (by omega) hw).1) (by simp [TXv, txC, clmT, iC, List.take_of_length_le])
  refine callH [5] hDT (by simp [iC, clmT, outv, outF, iF]) (by simp) (by simp) (by simp) (by simp) ?_
  rintro y H' ⟨rfl, rfl⟩
  refine ⟨.inl (by simp), by simp, ?_⟩
  simp [txC, iC, -errV_0]
  exact fin0
def usU (i : Nat) (q : Int × Int) (sec : List UInt8) : List Usx := if q.1 = 1 then [⟨i, 1, sec⟩] else if q.1 = 2 then [⟨i, 0, []⟩] else if q.1 = 3 then [⟨i, 2, sec⟩] else []
def uzB (sec : List UInt8) : Nat → List (Int × Int) → List Usx
  | _, [] => []
  | i, q :: r => usU i q sec ++ uzB sec (i + 1) r
theorem uzB_snoc (sec : List UInt8) (q : Int × Int) : ∀ (l : List (Int × Int)) (j : Nat), uzB sec j (l ++ [q]) = uzB sec j l ++ usU (j + l.length) q sec
  | [], j => by simp [uzB]
  | x :: r, j => by
    rw [List.cons_append, uzB, uzB, uzB_snoc sec q r (j + 1), List.append_assoc, List.length_cons, show j + 1 + r.length = j + (r.length + 1) by omega]
theorem usU_mem {i : Nat} {q : Int × Int} {sec : List UInt8} {u : Usx} (h : u ∈ usU i q sec) : u.o = i ∧ (u.b = 0 ∨ u.b = 1 ∨ u.b = 2) ∧ u.sec.length ≤ sec.length := by
  unfold usU at h
  split at h
  · simp at h; subst h; simp
  split at h
  · simp at h; subst h; simp
  split at h
  · simp at h; subst h; simp
  · simp at h
theorem usU_len (i : Nat) (q : Int × Int) (sec : List UInt8) : (usU i q sec).length ≤ 1 := by
  unfold usU
  split
  · simp
  split
  · simp
  split <;> simp
theorem uzB_mem (sec : List UInt8) : ∀ (l : List (Int × Int)) (j : Nat) (u : Usx), u ∈ uzB sec j l → u.o < j + l.length ∧ (u.b = 0 ∨ u.b = 1 ∨ u.b = 2) ∧ u.sec.length ≤ sec.length
  | [], j, u, h => by simp [uzB] at h
  | q :: r, j, u, h => by
    rw [uzB, List.mem_append] at h
    rcases h with h | h
    · obtain ⟨a, b, c⟩ := usU_mem h
      exact ⟨by simp; omega, b, c⟩
    · obtain ⟨a, b, c⟩ := uzB_mem sec r (j + 1) u h
      exact ⟨by simp; omega, b, c⟩
theorem uzB_len (sec : List UInt8) : ∀ (l : List (Int × Int)) (j : Nat), (uzB sec j l).length ≤ l.length
  | [], j => by simp [uzB]
  | q :: r, j => by
    have h1 := usU_len j q sec
    have h2 := uzB_len sec r (j + 1)
    rw [uzB, List.length_append, List.length_cons]
    omega
theorem plc_len (p : Prm) (s : Sta) (o : Int) (lock : List UInt8) : (plcB p s o).length = (outsB p s o lock).length := by
  unfold plcB outsB plc1 plc2 out1 out2 plcP plcH outP outH
  simp only [List.length_append, List.length_map]
  split <;> split <;> rfl
def penS (p : Prm) (s : Sta) (o : Int) (sec : List UInt8) : Txn × Nat :=
  if (cmtS p s o (sumS sec)).2 ≠ 0 then (zTx, (cmtS p s o (sumS sec)).2) else clmS (cmtS p s o (sumS sec)).1 (uzB sec 0 (plcB p s o)) (keyO p (1 - o)) p.fe
theorem cmt_0 {p : Prm} {s : Sta} {o : Int} {lock : List UInt8} (h : (cmtS p s o lock).2 = 0) : bldE p s = 0 ∧ (o = 0 ∨ o = 1) ∧ (cmtS p s o lock).1 = cmtT p s o lock := by
  unfold cmtS at h ⊢
  split at h
  · rename_i c; exact absurd h c
  rename_i c
  split at h
  · simp at h
  rename_i c2
  have c := Classical.not_not.1 c
  have ho : o = 0 ∨ o = 1 := by
    refine Classical.not_not.1 fun q => c2 (.inl q)
  rw [if_neg (by simpa using c), if_neg c2]
  refine ⟨c, ho, ?_⟩
  unfold donT at h ⊢
  split at h
  · rename_i c3; exact absurd h c3
  · rename_i c3
    rw [if_neg c3]
theorem cmt_small {p : Prm} {s : Sta} {o : Int} {lock : List UInt8} (hp : p.ok) (hs : s.ok) (hl : lock.length = 32) (h : bldE p s = 0) : (encT (cmtT p s o lock)).length ≤ 100000000 := by
  have hm := outsB_sm (p := p) (o := o) hs hl h
  have hn := (outsB_ok (o := o) hp hs hl h).2
  have h1 := uB_len 0
  have h2 := uB_len p.n
  have h3 := uB_len 1
  have h4 : (ousB (outsB p s o lock)).length ≤ 930000 * (outsB p s o lock).length := flat_len fun x hx => oupB_le (hm x hx)
  have h5 := uB_len ((outsB p s o lock).length : Int)
  have h6 := hp.1
  have h7 := stuff_len ([] : List UInt8)
  simp only [encT, mdB, hdB, cmtT, insB, List.flatMap_cons, List.flatMap_nil, inpB, bytesB, List.length_append, List.length_cons, List.length_nil, List.append_nil] at *
  have h8 : uB ((0 + 1 : Nat) : Int) = uB 1 := rfl
  rw [h8]
  omega
theorem use_ok {p : Prm} {s : Sta} {o : Int} {sec lock : List UInt8} (hsec : sec.length ≤ 10000) : ∀ u ∈ uzB sec 0 (plcB p s o), u.ok (cmtT p s o lock).outs.length := by
  intro u hu
  obtain ⟨a, b, c⟩ := uzB_mem sec _ _ u hu
  rw [Nat.zero_add, plc_len p s o lock] at a
  exact ⟨a, by rcases b with b | b | b <;> rw [b] <;> simp [i64], by omega⟩
theorem clmS_ok {t : Txn} {l : List Usx} {who fee : Int} (ht : t.ok) (hn : t.outs.length ≤ 100) (hl : ∀ u ∈ l, u.ok t.outs.length) (hl2 : l.length ≤ 100) (hw : i64 who) : (clmS t l who fee).1.ok ∧ (clmS t l who fee).1.sm := by
  unfold clmS
  split
  · exact zTx_okS
  rename_i c
  split
  · exact zTx_okS
  split
  · exact zTx_okS
  exact donT_ok (clmT_ok ht hn hl hl2 (by omega) (by omega) hw)
theorem penS_ok {p : Prm} {s : Sta} {o : Int} {sec : List UInt8} (hp : p.ok) (hs : s.ok) (hsec : sec.length ≤ 10000) : (penS p s o sec).1.ok ∧ (penS p s o sec).1.sm := by
  unfold penS
  split
  · exact zTx_okS
  rename_i c
  obtain ⟨c1, c2, c3⟩ := cmt_0 (Classical.not_not.1 c)
  obtain ⟨d1, d2⟩ := outsB_ok (o := o) hp hs (sumS_len sec) c1
  rw [c3]
  refine clmS_ok (cmtT_ok hp hs (sumS_len sec) c1) (by show (outsB p s o (sumS sec)).length ≤ _; omega) (use_ok hsec) ?_ (keyO_i64 hp _)
  have := uzB_len sec (plcB p s o) 0
  have e := plc_len p s o (sumS sec)
  omega
def Gle (x y : FV) : Prop := x = y ∨ x = gN y
theorem fr_mix {Φ : Nat → Prop} {w : World} {es : Nat} {xs ys : List (List FV)} {v : Value} (hR : All2 (All2 Gle) xs ys) (h : FR Φ w (.sl es xs) v) : FR Φ w (.sl es ys) v := by
  have hlen : xs.length = ys.length := hR.1
  have hfl := All2.flatten hR
  cases h with
  | emp =>
    have : ys = [] := List.eq_nil_of_length_eq_zero (by simpa using hlen.symm)
    subst this
    exact FR.emp _ _ _
  | sl es xs b off cap vs hb h0 hl hn hcap hcell hfr =>
    rw [hlen]
    refine .sl es ys b off cap vs hb h0 ?_ (by rw [hn, hlen]) (by omega) hcell ?_
    · intro y hy
      obtain ⟨i, hi⟩ := List.getElem?_of_mem hy
      obtain ⟨x, hx, hxy⟩ := hR.get' hi
      rw [← hxy.1]
      exact hl x (List.mem_of_getElem? hx)
    · intro j y u hy hu
      obtain ⟨x, hx, hxy⟩ := hfl.get' hy
      have h1 := hfr j x u hx hu
      rcases hxy with rfl | rfl
      · exact h1
      · unfold gN at h1
        split at h1
        · cases h1
          exact FR.emp _ none 0
        · exact h1
theorem ecalls_mix {P : Program} {f : FuncId} {x : EV} {es : Nat} {xs ys : List (List FV)} {rest : List EV} {H : List EO} {post : EV → List (Option EO) → Prop} (hR : All2 (All2 Gle) xs ys) (h : ECalls P f (x :: .v (.c (.fz (.sl es ys))) :: rest) H post) :
    ECalls P f (x :: .v (.c (.fz (.sl es xs))) :: rest) H post := by
  intro ρ Φ w vals r' ha
  refine h ρ Φ w vals r' ?_
  obtain ⟨u0, us0, rfl, h0, ha⟩ := ha.cons_left
  obtain ⟨u, us, rfl, h1, h2⟩ := ha.cons_left
  exact All2.cons h0 (All2.cons (fr_mix hR h1) h2)
def useG (u : Usx) : List FV := if u.b = 0 then (useF u).map gN else useF u
def usg (l : List Usx) : List (List FV) := l.map useG
@[simp] theorem usg_len (l : List Usx) : (usg l).length = l.length := by simp [usg]
theorem all2_self {l : List FV} : All2 Gle l l := ⟨rfl, fun i x y h1 h2 => by rw [h1] at h2; exact .inl (Option.some.inj h2)⟩
theorem all2_map {l : List FV} : All2 Gle (l.map gN) l := ⟨by simp, fun i x y h1 h2 => by rw [List.getElem?_map, h2] at h1; exact .inr (Option.some.inj h1).symm⟩
theorem usg_le (l : List Usx) : All2 (All2 Gle) (usg l) (usev l) := by
  refine ⟨by simp, ?_⟩
  intro i x y h1 h2
  unfold usg at h1
  unfold usev at h2
  rw [List.getElem?_map] at h1 h2
  cases h : l[i]? with
  | none => rw [h] at h1; simp at h1
  | some u =>
    rw [h] at h1 h2
    simp at h1 h2
    subst h1 h2
    unfold useG
    split
    · exact all2_map
    · exact all2_self
@[simp] def yl15c : UL | _ => [xQ 0 4 (.box 42 (.t 0)), xQ 1 5 (.box 47 (.t 1)), xQ 2 8 (.alloc 63 [xZ, xS, xS]), xQ 3 9 (.mov (.k .nilIface))]
@[simp] def yl15d : UL | _ => [⟨5, (some 22), none, (.call 18 [(.t 17), (.t 18), (.t 19), (.t 21)]), [9]⟩, xM 6 16 22, xQ 7 23 (.ext 0 (.t 16)), xQ 8 24 (.ext 1 (.t 16)), ⟨10, none, none, (.fz (.sto 3 (.t 10) (.t 23))), [8]⟩, xM 11 11 24]
@[simp] def yl15e : UL | _ => xQ 0 17 (.lda 38 (.t 4)) :: xQ 1 18 (.lda 5 (.t 5)) :: xM 2 19 2 :: xM 3 20 3 :: xQ 9 10 (.alloc 63 [xZ, xS, xS]) :: ⟨4, (some 21), none, (.call 33 [(.t 20)]), [0, 1, 2, 9]⟩ :: hid yl15d
@[simp] def yl15f : UL | _ => [xM 0 25 11, xQ 1 26 (.eqi true (.t 25))]
@[simp] def yl15g : UL | _ => [xQ 0 27 (.build [xZ, xS, xS] []), xM 1 28 11, xN 2 (.fz (.sto 3 (.t 8) (.t 27))), xM 3 9 28]
@[simp] def yb15h : UB | _ => .seq (reg0 (hid yl15f) 2) (.cond (.t 26) (.seq (reg0 (hid yl15g) 4) .ret) .skip)
@[simp] def yl15i : UL | _ => [xQ 6 35 (.ext 1 (.t 29)), xM 7 12 34, xM 8 11 35]
@[simp] def yl15j : UL | _ => xQ 0 30 (.lda 38 (.t 4)) :: xQ 1 31 (.lda 5 (.t 5)) :: xM 2 32 2 :: xO 3 33 (.call 13 [(.t 30), (.t 31), (.t 32)]) :: xM 4 29 33 :: xQ 5 34 (.ext 0 (.t 29)) :: hid yl15i
@[simp] def yl15k : UL | _ => [xM 0 36 11, xQ 1 37 (.eqi true (.t 36))]
@[simp] def yl15l : UL | _ => [xQ 0 38 (.build [xZ, xS, xS] []), xM 1 39 11, xN 2 (.fz (.sto 3 (.t 8) (.t 38))), xM 3 9 39]
@[simp] def yb15m : UB | _ => .seq (reg0 (hid yl15k) 2) (.cond (.t 37) (.seq (reg0 (hid yl15l) 4) .ret) .skip)
@[simp] def yl15n : UL | _ => [xQ 0 13 (.mov (.k xS))]
@[simp] def yl15o : UL | _ => [xM 0 40 12, xQ 1 41 (.len (.t 40)), xQ 2 42 (.mov (xK 0))]
@[simp] def yl15p : UL | _ => [xQ 0 43 (.bin .lss (.t 42) (.t 41))]
@[simp] def yl15q : UL | _ => [xM 0 44 42, xQ 1 45 (.isl 2 (.t 40) (.t 42)), xQ 2 46 (.lda 2 (.t 45)), xQ 3 15 (.alloc 54 [xZ, xZ]), xM 4 14 44, xN 5 (.sto 2 (.t 15) (.t 46))]
@[simp] def yl15r : UL | _ => [xQ 0 47 (.fad 0 (.t 15)), xQ 1 48 (.ldc (.t 47))]
@[simp] def yl15s : UL | _ => [xQ 0 50 (.bin .eql (.t 48) (xK 1)), xM 1 49 50]
@[simp] def yl15t : UL | _ => [xM 6 13 56]
@[simp] def yl15u : UL | _ => xM 0 51 13 :: xM 1 52 14 :: xM 2 53 3 :: xQ 3 54 (.build [xZ, xZ, xS] [(0, 1, (.t 52)), (1, 1, (xK 1)), (2, 1, (.t 53))]) :: xO 4 55 (.fz (.q (.bsl 3 [xZ, xZ, xS] 1 [(0, (.t 54))]))) :: xO 5 56 (.app 105 3 40 (.t 51) (.t 55)) :: hid yl15t
@[simp] def yl15v : UL | _ => [xQ 0 58 (.bin .eql (.t 48) (xK 2)), xM 1 57 58]
@[simp] def yl15w : UL | _ => [xM 0 59 13, xM 1 60 14, xQ 2 61 (.build [xZ, xZ, xS] [(0, 1, (.t 60))]), xO 3 62 (.fz (.q (.bsl 3 [xZ, xZ, xS] 1 [(0, (.t 61))]))), xO 4 63 (.app 105 3 40 (.t 59) (.t 62)), xM 5 13 63]
@[simp] def yl15x : UL | _ => [xQ 0 65 (.bin .eql (.t 48) (xK 3)), xM 1 64 65]
@[simp] def yl15y : UL | _ => [xM 6 13 71]
@[simp] def yl15z : UL | _ => xM 0 66 13 :: xM 1 67 14 :: xM 2 68 3 :: xQ 3 69 (.build [xZ, xZ, xS] [(0, 1, (.t 67)), (1, 1, (xK 2)), (2, 1, (.t 68))]) :: xO 4 70 (.fz (.q (.bsl 3 [xZ, xZ, xS] 1 [(0, (.t 69))]))) :: xO 5 71 (.app 105 3 40 (.t 66) (.t 70)) :: hid yl15y
@[simp] def yb160 : UB | _ => .seq (reg0 (hid yl15x) 2) (.cond (.t 64) (reg0 (hid yl15z) 7) .skip)
@[simp] def yb161 : UB | _ => .seq (reg0 (hid yl15v) 2) (.cond (.t 57) (reg0 (hid yl15w) 6) (hid yb160))
@[simp] def yb162 : UB | _ => .seq (reg0 (hid yl15s) 2) (.cond (.t 49) (reg0 (hid yl15u) 7) (hid yb161))
@[simp] def yb163 : UB | _ => .seq (reg0 (hid yl15q) 6) (.seq (reg0 (hid yl15r) 2) (.block 2 (hid yb162)))
@[simp] def yl164 : UL | _ => [xQ 0 72 (.bin .add (.t 42) (xK 1)), xM 1 42 72]
@[simp] def yb165 : UB | _ => .seq (.cond (.t 43) .skip (.exit 0)) (.seq (.block 1 (hid yb163)) (reg0 (hid yl164) 2))
@[simp] def yb166 : UB | _ => .seq (reg0 (hid yl15o) 3) (.block 0 (.loop (.seq (reg0 (hid yl15p) 1) (hid yb165))))
@[simp] def yl167 : UL | _ => [xN 12 (.fz (.sto 3 (.t 8) (.t 83))), xM 13 9 84]
@[simp] def yl168 : UL | _ => xQ 6 79 (.ldc (.t 78)) :: xQ 7 80 (.fad 37 (.t 4)) :: xQ 8 81 (.ldc (.t 80)) :: xO 9 82 (.call 38 [(.t 73), (.t 74), (.t 79), (.t 81)]) :: xQ 10 83 (.ext 0 (.t 82)) :: xQ 11 84 (.ext 1 (.t 82)) :: hid yl167
@[simp] def yl169 : UL | _ => xQ 0 73 (.lda 3 (.t 10)) :: xM 1 74 13 :: xM 2 75 2 :: xQ 3 76 (.bin .sub (xK 1) (.t 75)) :: xQ 4 77 (.fad 34 (.t 4)) :: xQ 5 78 (.iad 2 1 (.t 77) (.t 76)) :: hid yl168
@[simp] def yb16a : UB | _ => .seq (reg0 (hid yl15n) 1) (.seq (hid yb166) (.seq (reg0 (hid yl169) 14) .ret))
@[simp] def yb16b : UB | _ => .seq (hid yb15h) (.seq (reg0 (hid yl15j) 9) (.seq (hid yb15m) (hid yb16a)))
@[simp] def yb16c : UB | _ => .seq (reg0 (hid yl15c) 4) (.seq (reg1 (hid yl15e) 12) (hid yb16b))
def c_BPen : EB × List QOp × Nat := ((hid yb16c), [(.lda 3 (.t 8)), (.mov (.t 9))], 85)
theorem k_BPen : cfun Tryz.prog 29 = some c_BPen := by kernel_rfl
set_option maxRecDepth 8000 in
theorem BPen_ok (p : Prm) (s : Sta) (o : Int) (sec : List UInt8) (hp : p.ok) (hs : s.ok) (ho : i64 o) (hsec : sec.length ≤ 10000) :
    ECalls Tryz.prog 29 [PVv p, SV s, I .i64 o, Bs sec] [] fun y H' => H' = [] ∧ y = .tup [.agg (txC (penS p s o sec).1), .c (.fz (.lit (errV (penS p s o sec).2)))] := by
  have h1 := hp.1
  have lp := prmC_len h1
  have tp := pm_take h1
  have hsl := sumS_len sec
  refine ecalls k_BPen ?_
  simp [c_BPen, PVv, SV, staC, Bs, I, lp, tp, iC, -errV_0]
  refine call0 (PLock_ok sec (by omega)) (by simp [Bs]) ?_
  rintro y H' ⟨rfl, rfl⟩
  refine ⟨.inl (by simp), le_ok rfl, ?_⟩
  simp [PVv, SV, staC, Bs, I, lp, tp, iC, hsl, -errV_0]
  refine call0 (BCommit_ok p s o (sumS sec) hp hs hsl) (by simp [PVv, SV, staC, I]) ?_
  rintro y H' ⟨rfl, rfl⟩
  refine ⟨.inl (by simp), le_ok rfl, ?_⟩
  by_cases c : (cmtS p s o (sumS sec)).2 = 0
  rotate_left
  · rw [show penS p s o sec = (zTx, (cmtS p s o (sumS sec)).2) from if_pos c]
    simp [c, txC, iC, -errV_0]
    refine finW _ (weak_nlB (o := 32) (k := 1) 35 rfl rfl) (finW _ (weak_nlB (o := 32) (k := 2) 2 rfl rfl) ?_)
    exact fin0
  obtain ⟨c1, c2, c3⟩ := cmt_0 c
  rw [show penS p s o sec = clmS (cmtS p s o (sumS sec)).1 (uzB sec 0 (plcB p s o)) (keyO p (1 - o)) p.fe from if_neg (by simpa using c), c3]
  have hcok := cmtT_ok (o := o) hp hs hsl c1
  obtain ⟨d1, d2⟩ := outsB_ok (o := o) hp hs hsl c1
  have hpl := plc_len p s o (sumS sec)
  have hP := BPlaces_ok p s o hp hs
  rw [show plcS p s o = (plcB p s o, 0) by unfold plcS; rw [if_neg (by simpa using c1), if_neg (fun q => q c2)]] at hP
  have hC := BClaim_ok (cmtT p s o (sumS sec)) (uzB sec 0 (plcB p s o)) (keyO p (1 - o)) p.fe hcok (by intro x hx; simp [cmtT] at hx; subst hx; rfl) (cmt_small hp hs hsl c1) (use_ok hsec) (by show (outsB p s o (sumS sec)).length ≤ _; omega) (by have := uzB_len sec (plcB p s o) 0; omega) (keyO_i64 hp _)
  rw [c]
  simp [txC, iC, PVv, SV, staC, I, lp, tp, -errV_0]
  refine call0 hP (by simp [PVv, SV, staC, I]) ?_
  rintro y H' ⟨rfl, rfl⟩
  refine ⟨.inl (by simp), le_ok rfl, ?_⟩
  simp [PVv, SV, staC, Bs, I, lp, tp, iC, -errV_0]
  refine loopW _ (weak_nilR 13 105 3 rfl (by omega)) ?_
  have e34 := idx_of (pm_at h1 2) (by omega)
  have e35 := idx_of (pm_at h1 3) (by omega)
  have e37 := idx_of (pm_at h1 5) (by omega)
  obtain ⟨Q, hQ⟩ : ∃ Q, plcB p s o = Q := ⟨_, rfl⟩
  obtain ⟨t, ht⟩ : ∃ t, cmtT p s o (sumS sec) = t := ⟨_, rfl⟩
  rw [hQ, ht] at hC ⊢
  have hQ2 : Q.length ≤ 20 := by rw [← hQ]; omega
  obtain ⟨K, hKd⟩ : ∃ K : Nat → List Usx, K = fun i => uzB sec 0 (Q.take i) := ⟨_, rfl⟩
  have hK0 : K 0 = [] := by rw [hKd]; rfl
  have hKn : uzB sec 0 Q = K Q.length := by rw [hKd]; simp
  have hKl : ∀ i, (K i).length ≤ 20 := by
    intro i
    rw [hKd]
    have := uzB_len sec (Q.take i) 0
    simp only [List.length_take] at this
    dsimp only
    omega
  have hKs : ∀ i q, Q[i]? = some q → K (i + 1) = K i ++ usU i q sec := by
    intro i q h
    have hil := lt_of_get h
    rw [hKd]
    dsimp only
    rw [List.take_add_one, h]
    simp only [Option.toList_some]
    rw [uzB_snoc]
    simp [Nat.min_eq_left (Nat.le_of_lt hil)]
  rw [hKn] at hC ⊢
  refine eloop (α := Nat) (fun i => i ≤ Q.length) (fun i => Q.length - i)
    (fun i => [xA, xA, I .i64 o, Bs sec, Ptr 0, xA, xA, xA, Ptr 2, xA, Ptr 3, xA, xA, .v (.c (.row 4 (K i).length)), xA, xA, xA, xA, xA, xA, xA, xA, xA, xA, xA, xA, xA, xA, xA, xA, xA, xA, xA, xA, xA, xA, xA, xA, xA, xA, .v (.c (.fz (.sl 2 (plcv Q)))), I .i64 Q.length, I .i64 i, xA, xA, xA, xA, xA, xA, xA, xA, xA, xA, xA, xA, xA, xA, xA, xA, xA, xA, xA, xA, xA, xA, xA, xA, xA, xA, xA, xA, xA, xA, xA, xA, xA, xA, xA, xA, xA, xA, xA, xA, xA, .any])
    (fun i => [some (.box 42 (prmC p)), some (.box 47 (staC s)), some (.box 63 [iC 0, .fz (.lit (.slice none 0 0)), .fz (.lit (.slice none 0 0))]), some (.box 63 (txC t)), some (.row 105 3 (usg (K i)))]) 0 [0, 16, 32, 208, 528]
    (Nat.zero_le _) (by simp [I, Ptr, Bs, hK0]) (by simp [iC, txC, staC, hK0, usg]) (by simp) (by simp) (by simp) ?_
  intro i hi
  have hKi := hKl i
  simp [I, Ptr, iC, txC, staC, Bs, -Int.natCast_add, -errV_0]
  refine alt (fun hlt => ?_) (fun hlt => ?_)
  · have hln : i < Q.length := by omega
    obtain ⟨⟨kd, ki⟩, hcq⟩ : ∃ q, Q[i]? = some q := ⟨Q[i], by simp [hln]⟩
    have hge : (plcv Q)[i]'(by simp [hln]) = plcF (kd, ki) := by
      have e : (plcv Q)[i]? = some (plcF (kd, ki)) := by simp [plcv, hcq]
      rw [List.getElem?_eq_getElem (by simp [hln])] at e
      exact Option.some.inj e
    have w1 := wS (i := i) (by omega)
    have hT := hKs i _ hcq
    unfold usU at hT
    simp [hln, hge, plcF, iF, -Int.natCast_add, -errV_0]
    by_cases g1 : kd = 1
    · subst g1
      have hv : K (i + 1) = K i ++ [⟨i, 1, sec⟩] := hT
      simp [w1, -Int.natCast_add, -errV_0]
      refine ⟨⟨by omega, by omega⟩, ?_⟩
      exact round (i + 1) [0, 1, 2, 3, 261] (by omega) (by omega) (by simp [I, Ptr, Bs, hv, -Int.natCast_add]) (by simp [hv, usg, useG, useF, iF, iC, txC, staC]) (by simp) (by simp) (by simp)
    by_cases g2 : kd = 2
    · subst g2
      have hv : K (i + 1) = K i ++ [⟨i, 0, []⟩] := hT
      simp [w1, -Int.natCast_add, -errV_0]
      refine ⟨⟨by omega, by omega⟩, ?_⟩
      exact round (i + 1) [0, 1, 2, 3, 277] (by omega) (by omega) (by simp [I, Ptr, Bs, hv, -Int.natCast_add]) (by simp [hv, usg, useG, useF, gN, bsv, iF, iC, txC, staC]) (by simp) (by simp) (by simp)
    by_cases g3 : kd = 3
    · subst g3
      have hv : K (i + 1) = K i ++ [⟨i, 2, sec⟩] := hT
      simp [w1, -Int.natCast_add, -errV_0]
      refine ⟨⟨by omega, by omega⟩, ?_⟩
      exact round (i + 1) [0, 1, 2, 3, 325] (by omega) (by omega) (by simp [I, Ptr, Bs, hv, -Int.natCast_add]) (by simp [hv, usg, useG, useF, iF, iC, txC, staC]) (by simp) (by simp) (by simp)
    have hv : K (i + 1) = K i := by rw [hT]; simp [g1, g2, g3]
    simp [g1, g2, g3, w1, -Int.natCast_add, -errV_0]
    exact round (i + 1) [0, 1, 2, 3, 4] (by omega) (by omega) (by simp [I, Ptr, Bs, hv, -Int.natCast_add]) (by simp [hv, iC, txC, staC]) (by simp) (by simp) (by simp)
  have hil : i = Q.length := by omega
  subst hil
  have hU : ECalls Tryz.prog 38 [TXv t, .v (.c (.row 0 (K Q.length).length)), I .i64 (keyO p (1 - o)), I .i64 p.fe] [.row 105 3 (usg (K Q.length))] (fun y H' => H' = [none] ∧ y = .tup [.agg (txC (clmS t (K Q.length) (keyO p (1 - o)) p.fe).1), .c (.fz (.lit (errV (clmS t (K Q.length) (keyO p (1 - o)) p.fe).2)))]) :=
    ecalls_thaw (ecalls_mix (usg_le (K Q.length)) hC) (by simp [TXv, txC, I, iC, List.take_of_length_le])
  clear hC
  rcases c2 with rfl | rfl
  · simp [w_0, w_1, e34, e35, e37, lp, I, iC, -errV_0]
    refine callH [4] hU (by simp [TXv, txC, I, iC, keyO]) (by simp) (by simp) (by simp) (by simp) ?_
    rintro y H' ⟨rfl, rfl⟩
    refine ⟨.inl (by simp), by simp, ?_⟩
    simp [txC, iC, -errV_0]
    exact fin0
  · simp [w_0, w_1, e34, e35, e37, lp, I, iC, -errV_0]
    refine callH [4] hU (by simp [TXv, txC, I, iC, keyO]) (by simp) (by simp) (by simp) (by simp) ?_
    rintro y H' ⟨rfl, rfl⟩
    refine ⟨.inl (by simp), by simp, ?_⟩
    simp [txC, iC, -errV_0]
    exact fin0
@[simp] def yl16d : UL | _ => [xQ 0 4 (.box 69 (.t 0)), xQ 1 8 (.alloc 69 [xZ, xS, xS]), xQ 2 9 (.mov (xK 0))]
@[simp] def yl16e : UL | _ => [xQ 6 23 (.pick (.t 20) (.k (.bool true)) (.t 22)), xM 7 24 23, xG 8 25 24 false (.mov (.t 3)), xG 9 26 24 false (.bin .gtr (.t 25) (xK 1125899906842624)), xQ 10 27 (.pick (.t 24) (.k (.bool true)) (.t 26))]
@[simp] def yl16f : UL | _ => xM 0 17 1 :: xQ 1 18 (.len (.t 17)) :: xQ 2 19 (.bin .eql (.t 18) (xK 0)) :: xM 3 20 19 :: xG 4 21 20 false (.mov (.t 3)) :: xG 5 22 20 false (.bin .lss (.t 21) (xK 0)) :: hid yl16e
@[simp] def yl16g : UL | _ => [xQ 0 28 (.build [xZ, xS, xS] []), xN 1 (.fz (.sto 3 (.t 8) (.t 28))), xQ 2 9 (.mov (xK 1))]
@[simp] def yb16h : UB | _ => .seq (reg0 (hid yl16f) 11) (.cond (.t 27) (.seq (reg0 (hid yl16g) 3) .ret) .skip)
@[simp] def yl16i : UL | _ => [xM 0 29 2, xO 1 30 (.call 52 [(.t 29)]), xQ 2 31 (.un .not (.t 30))]
@[simp] def yl16j : UL | _ => [xQ 0 32 (.build [xZ, xS, xS] []), xN 1 (.fz (.sto 3 (.t 8) (.t 32))), xQ 2 9 (.mov (xK 33))]
@[simp] def yb16k : UB | _ => .seq (reg0 (hid yl16i) 3) (.cond (.t 31) (.seq (reg0 (hid yl16j) 3) .ret) .skip)
@[simp] def yl16l : UL | _ => [xQ 0 33 (.build [xZ, xS, xS] []), xQ 1 10 (.alloc 69 [xZ, xS, xS]), xN 2 (.fz (.sto 3 (.t 10) (.t 33)))]
@[simp] def yl16m : UL | _ => [xQ 0 34 (.build [xZ, xS, xS] []), xQ 1 11 (.alloc 69 [xZ, xS, xS]), xN 2 (.fz (.sto 3 (.t 11) (.t 34)))]
@[simp] def yl16n : UL | _ => [xQ 0 12 (.mov (xK 0))]
@[simp] def yl16o : UL | _ => [xM 0 35 12, xM 1 36 1, xQ 2 37 (.len (.t 36)), xQ 3 38 (.bin .lss (.t 35) (.t 37))]
@[simp] def yl16p : UL | _ => [xG 12 53 47 false (.fad 2 (.t 4)), xG 13 54 47 false (.ldc (.t 53)), xG 14 55 47 false (.len (.t 54)), xG 15 56 47 false (.bin .geq (.t 52) (.t 55)), xQ 16 57 (.pick (.t 47) (.k (.bool true)) (.t 56))]
@[simp] def yl16q : UL | _ => xM 6 47 46 :: xG 7 48 47 false (.mov (.t 1)) :: xG 8 49 47 false (.mov (.t 12)) :: xG 9 50 47 false (.isl 3 (.t 48) (.t 49)) :: xG 10 51 47 false (.fad 0 (.t 50)) :: xG 11 52 47 false (.ldc (.t 51)) :: hid yl16p
@[simp] def yl16r : UL | _ => xM 0 41 1 :: xM 1 42 12 :: xQ 2 43 (.isl 3 (.t 41) (.t 42)) :: xQ 3 44 (.fad 0 (.t 43)) :: xQ 4 45 (.ldc (.t 44)) :: xQ 5 46 (.bin .lss (.t 45) (xK 0)) :: hid yl16q
@[simp] def yl16s : UL | _ => [xQ 0 58 (.build [xZ, xS, xS] []), xN 1 (.fz (.sto 3 (.t 8) (.t 58))), xQ 2 9 (.mov (xK 4))]
@[simp] def yb16t : UB | _ => .seq (reg0 (hid yl16r) 17) (.cond (.t 57) (.seq (reg0 (hid yl16s) 3) .ret) .skip)
@[simp] def yl16u : UL | _ => [xM 0 39 12, xQ 1 40 (.bin .add (.t 39) (xK 1)), xM 2 12 40]
@[simp] def yb16v : UB | _ => .seq (.seq (reg0 (hid yl16o) 4) (.cond (.t 38) .skip (.exit 0))) (.seq (.block 1 (hid yb16t)) (reg0 (hid yl16u) 3))
@[simp] def yl16w : UL | _ => [xQ 0 59 (.lda 3 (.t 4)), xO 1 60 (.call 105 [(.t 59)]), xQ 2 13 (.alloc 23 zU8), xN 3 (.sto 32 (.t 13) (.t 60))]
@[simp] def yl16x : UL | _ => [xQ 0 14 (.mov (xK 0))]
@[simp] def yl16y : UL | _ => [xM 0 61 14, xM 1 62 1, xQ 2 63 (.len (.t 62)), xQ 3 64 (.bin .lss (.t 61) (.t 63))]
@[simp] def yl16z : UL | _ => [xQ 18 85 (.ldc (.t 84)), xQ 19 86 (.build (zU8 ++ [xZ, xZ, xS]) [(0, 33, (.t 75)), (33, 1, (.t 80)), (34, 1, (.t 85))]), ⟨20, (some 87), none, (.fz (.q (.bsl 35 (zU8 ++ [xZ, xZ, xS]) 1 [(0, (.t 86))]))), [0, 1]⟩, xO 21 88 (.app 83 35 72 (.t 68) (.t 87)), xQ 22 89 (.fad 1 (.t 10)), xN 23 (.fz (.sto 1 (.t 89) (.t 88)))]
@[simp] def yl170 : UL | _ => xQ 12 79 (.fad 1 (.t 78)) :: xQ 13 80 (.ldc (.t 79)) :: xM 14 81 1 :: xM 15 82 14 :: xQ 16 83 (.isl 3 (.t 81) (.t 82)) :: xQ 17 84 (.fad 2 (.t 83)) :: hid yl16z
@[simp] def yl171 : UL | _ => xQ 6 73 (.fad 0 (.t 72)) :: xQ 7 74 (.ldc (.t 73)) :: xQ 8 75 (.build (zU8 ++ [xZ]) [(0, 32, (.t 69)), (32, 1, (.t 74))]) :: xM 9 76 1 :: xM 10 77 14 :: xQ 11 78 (.isl 3 (.t 76) (.t 77)) :: hid yl170
@[simp] def yl172 : UL | _ => xQ 0 67 (.fad 1 (.t 10)) :: xQ 1 68 (.ldc (.t 67)) :: xQ 2 69 (.lda 32 (.t 13)) :: xM 3 70 1 :: xM 4 71 14 :: xQ 5 72 (.isl 3 (.t 70) (.t 71)) :: hid yl171
@[simp] def yl173 : UL | _ => [xO 12 102 (.app 148 2 32 (.t 91) (.t 101)), xQ 13 103 (.fad 2 (.t 11)), xN 14 (.fz (.sto 1 (.t 103) (.t 102)))]
@[simp] def yl174 : UL | _ => xQ 6 96 (.isl 3 (.t 94) (.t 95)) :: xQ 7 97 (.fad 0 (.t 96)) :: xQ 8 98 (.ldc (.t 97)) :: xQ 9 99 (.isl 2 (.t 93) (.t 98)) :: xQ 10 100 (.lda 2 (.t 99)) :: ⟨11, (some 101), none, (.fz (.q (.bsl 2 [xZ, xS] 1 [(0, (.t 100))]))), [0, 1]⟩ :: hid yl173
@[simp] def yl175 : UL | _ => xQ 0 90 (.fad 2 (.t 11)) :: xQ 1 91 (.ldc (.t 90)) :: xQ 2 92 (.fad 2 (.t 4)) :: xQ 3 93 (.ldc (.t 92)) :: xM 4 94 1 :: xM 5 95 14 :: hid yl174
@[simp] def yb176 : UB | _ => .block 3 (.seq (reg1 (hid yl172) 24) (reg1 (hid yl175) 15))
@[simp] def yl177 : UL | _ => [xM 0 65 14, xQ 1 66 (.bin .add (.t 65) (xK 1)), xM 2 14 66]
@[simp] def yb178 : UB | _ => .seq (.seq (reg0 (hid yl16y) 4) (.cond (.t 64) .skip (.exit 2))) (.seq (hid yb176) (reg0 (hid yl177) 3))
@[simp] def yl179 : UL | _ => [xM 6 16 108]
@[simp] def yl17a : UL | _ => xQ 0 105 (.lda 3 (.t 11)) :: xO 1 106 (.call 106 [(.t 105)]) :: xM 2 104 106 :: xQ 3 107 (.ext 0 (.t 104)) :: xQ 4 108 (.ext 1 (.t 104)) :: xM 5 15 107 :: hid yl179
@[simp] def yl17b : UL | _ => [xM 0 109 16, xQ 1 110 (.bin .neq (.t 109) (xK 0))]
@[simp] def yl17c : UL | _ => [xQ 0 111 (.build [xZ, xS, xS] []), xM 1 112 16, xN 2 (.fz (.sto 3 (.t 8) (.t 111))), xM 3 9 112]
@[simp] def yb17d : UB | _ => .seq (reg0 (hid yl17b) 2) (.cond (.t 110) (.seq (reg0 (hid yl17c) 4) .ret) .skip)
@[simp] def yl17e : UL | _ => [xN 12 (.fz (.sto 1 (.t 124) (.t 123)))]
@[simp] def yl17f : UL | _ => xQ 6 119 (.bsl 1 [xZ] 1 [(0, (.t 118))]) :: ⟨7, (some 120), none, (.call 58 [(.t 119)]), [0, 1, 2, 3, 4]⟩ :: xQ 8 121 (.build [xZ, xS] [(0, 1, (.t 117)), (1, 1, (.t 120))]) :: ⟨9, (some 122), none, (.fz (.q (.bsl 2 [xZ, xS] 1 [(0, (.t 121))]))), [0, 1]⟩ :: xO 10 123 (.app 148 2 32 (.t 114) (.t 122)) :: xQ 11 124 (.fad 2 (.t 10)) :: hid yl17e
@[simp] def yl17g : UL | _ => xQ 0 113 (.fad 2 (.t 10)) :: xQ 1 114 (.ldc (.t 113)) :: xM 2 115 15 :: xM 3 116 3 :: xQ 4 117 (.bin .sub (.t 115) (.t 116)) :: xM 5 118 2 :: hid yl17f
@[simp] def yl17h : UL | _ => [xQ 0 125 (.lda 3 (.t 10)), xO 1 126 (.call 48 [(.t 125)]), xQ 2 127 (.ext 0 (.t 126)), xQ 3 128 (.ext 1 (.t 126)), xN 4 (.fz (.sto 3 (.t 8) (.t 127))), xM 5 9 128]
@[simp] def yb17i : UB | _ => .seq (reg1 (hid yl17g) 13) (.seq (reg0 (hid yl17h) 6) .ret)
@[simp] def yb17j : UB | _ => .seq (reg0 (hid yl17a) 7) (.seq (hid yb17d) (hid yb17i))
@[simp] def yb17k : UB | _ => .seq (.seq (reg0 (hid yl16x) 1) (.block 2 (.loop (hid yb178)))) (hid yb17j)
@[simp] def yb17l : UB | _ => .seq (.seq (reg0 (hid yl16n) 1) (.block 0 (.loop (hid yb16v)))) (.seq (reg0 (hid yl16w) 4) (hid yb17k))
@[simp] def yb17m : UB | _ => .seq (reg0 (hid yl16l) 3) (.seq (reg0 (hid yl16m) 3) (hid yb17l))
@[simp] def yb17n : UB | _ => .seq (reg0 (hid yl16d) 3) (.seq (hid yb16h) (.seq (hid yb16k) (hid yb17m)))
def c_RClaim : EB × List QOp × Nat := ((hid yb17n), [(.lda 3 (.t 8)), (.mov (.t 9))], 129)
theorem k_RClaim : cfun Tryz.prog 61 = some c_RClaim := by kernel_rfl
set_option maxRecDepth 8000 in
theorem RClaim_ok (t : Txn) (l : List Usx) (who fee : Int) (ht : t.ok) (hse : ∀ x ∈ t.ins, x.sec = []) (hs : (encT t).length ≤ 100000000) (hl : ∀ u ∈ l, u.ok t.outs.length) (hn : t.outs.length ≤ 100) (hn2 : l.length ≤ 100) (hw : i64 who) :
    ECalls Tryz.prog 61 [TXv t, USL l, I .i64 who, I .i64 fee] [] fun y H' => H' = [] ∧ y = .tup [.agg (txC (clmS t l who fee).1), .c (.fz (.lit (.int .i64 (clmS t l who fee).2)))] := by
  obtain ⟨h1, h2, h3, h4, h5⟩ := id ht
  refine ecalls k_RClaim ?_
  simp [c_RClaim, TXv, txC, USL, I, iC]
  by_cases c1 : l = []
  · subst c1
    rw [show clmS t [] who fee = (zTx, 1) from if_pos (.inl rfl)]
    simp
    refine finW _ (weak_nlB (o := 16) (k := 1) 35 rfl rfl) (finW _ (weak_nlB (o := 16) (k := 2) 2 rfl rfl) ?_)
    exact fin0
  have c1' : ¬ l.length = 0 := by rw [List.length_eq_zero_iff]; exact c1
  by_cases c2 : fee < 0
  · rw [show clmS t l who fee = (zTx, 1) from if_pos (.inr (.inl c2))]
    simp [c1, c1', c2]
    refine finW _ (weak_nlB (o := 16) (k := 1) 35 rfl rfl) (finW _ (weak_nlB (o := 16) (k := 2) 2 rfl rfl) ?_)
    exact fin0
  by_cases c3 : 1125899906842624 < fee
  · rw [show clmS t l who fee = (zTx, 1) from if_pos (.inr (.inr c3))]
    simp [c1, c1', c2, c3]
    refine finW _ (weak_nlB (o := 16) (k := 1) 35 rfl rfl) (finW _ (weak_nlB (o := 16) (k := 2) 2 rfl rfl) ?_)
    exact fin0
  simp [c1, c1', c2, c3]
  refine call0 (RParty_ok who) (by simp [I]) ?_
  rintro y H' ⟨rfl, rfl⟩
  refine ⟨.inl (by simp), le_ok rfl, ?_⟩
  by_cases c4 : 0 ≤ who ∧ who < 16
  rotate_left
  · rw [show clmS t l who fee = (zTx, 33) by unfold clmS; rw [if_neg (by simp [c1]; omega), if_pos c4]]
    simp [c4]
    refine finW _ (weak_nlB (o := 16) (k := 1) 35 rfl rfl) (finW _ (weak_nlB (o := 16) (k := 2) 2 rfl rfl) ?_)
    exact fin0
  simp [c4]
  refine loopW _ (weak_nil (o := 288) (k := 1) (ty := 83) (es := 35) rfl rfl (by omega)) (loopW _ (weak_nil (o := 288) (k := 2) (ty := 148) (es := 2) rfl rfl (by omega)) (loopW _ (weak_nil (o := 336) (k := 1) (ty := 83) (es := 35) rfl rfl (by omega)) (loopW _ (weak_nil (o := 336) (k := 2) (ty := 148) (es := 2) rfl rfl (by omega)) ?_)))
  refine eloop (α := Nat) (fun i => i ≤ l.length) (fun i => l.length - i)
    (fun i => [xA, USL l, I .i64 who, I .i64 fee, Ptr 0, xA, xA, xA, Ptr 1, xA, Ptr 2, Ptr 3, I .i64 i, xA, xA, xA, xA, xA, xA, xA, xA, xA, xA, xA, xA, xA, xA, xA, xA, xA, xA, xA, xA, xA, xA, xA, xA, xA, xA, xA, xA, xA, xA, xA, xA, xA, xA, xA, xA, xA, xA, xA, xA, xA, xA, xA, xA, xA, xA, xA, xA, xA, xA, xA, xA, xA, xA, xA, xA, xA, xA, xA, xA, xA, xA, xA, xA, xA, xA, xA, xA, xA, xA, xA, xA, xA, xA, xA, xA, xA, xA, xA, xA, xA, xA, xA, xA, xA, xA, xA, xA, xA, xA, xA, xA, xA, xA, xA, xA, xA, xA, xA, xA, xA, xA, xA, xA, xA, xA, xA, xA, xA, xA, xA, xA, xA, xA, xA, .any])
    (fun i => [some (.box 69 (txC t)), some (.box 69 [iC 0, .fz (.lit (.slice none 0 0)), .fz (.lit (.slice none 0 0))]), some (.box 69 [iC 0, .row 4 0, .row 5 0]), some (.box 69 [iC 0, .row 6 0, .row 7 0]), some (.row 83 35 []), some (.row 148 2 []), some (.row 83 35 []), some (.row 148 2 [])]) 0 [0, 16, 288, 336, 384, 385, 386, 387]
    (Nat.zero_le _) (by simp [I, Ptr, USL]) (by simp [iC, txC]) (by simp) (by simp) (by simp) ?_
  intro i hi
  simp [I, Ptr, iC, txC, USL, -Int.natCast_add]
  refine alt (fun hlt => ?_) (fun hlt => ?_)
  · have hln : i < l.length := by omega
    obtain ⟨q, hcq⟩ : ∃ q, l[i]? = some q := ⟨l[i], by simp [hln]⟩
    have hge : (usev l)[i]'(by simp [hln]) = useF q := gE (usev_get hcq)
    have hqo := hl q (List.mem_of_getElem? hcq)
    have hq1 := hqo.1
    have n0 : ¬ ((q.o : Int) < 0) := by omega
    have n1 : ¬ ((t.outs.length : Int) ≤ (q.o : Int)) := by omega
    have n2 : ¬ (t.outs.length ≤ q.o) := by omega
    have w1 := wS (i := i) (by omega)
    simp [hln, hge, useF, iF, n0, n1, n2, w1, -Int.natCast_add]
    exact round (i + 1) [0, 1, 2, 3, 4, 5, 6, 7] (by omega) (by omega) (by simp [I, Ptr, USL, -Int.natCast_add]) (by simp [iC, txC]) (by simp) (by simp) (by simp)
  have hil : i = l.length := by omega
  subst hil
  simp
  refine call0 (RTxID_ok t ht hse hs) (by simp [TXv, txC, iC]) ?_
  rintro y H' ⟨rfl, rfl⟩
  refine ⟨.inl (by simp), by simp, ?_⟩
  have hsl := sumS_len (encT t)
  have hst : List.take 32 (sumS (encT t)) = sumS (encT t) := List.take_of_length_le (by omega)
  have d33 : ∀ a : EC, List.drop 33 (hc (sumS (encT t)) ++ [a]) = [] := fun a => by rw [List.drop_eq_nil_iff]; simp [hsl]
  have d32 : List.drop 32 (hc hz) = [] := rfl
  simp [hsl, d32]
  refine eloop (α := Nat) (fun i => i ≤ l.length) (fun i => l.length - i)
    (fun i => [xA, USL l, I .i64 who, I .i64 fee, Ptr 0, xA, xA, xA, Ptr 1, xA, Ptr 2, Ptr 3, xA, Ptr 4, I .i64 i, xA, xA, xA, xA, xA, xA, xA, xA, xA, xA, xA, xA, xA, xA, xA, xA, xA, xA, xA, xA, xA, xA, xA, xA, xA, xA, xA, xA, xA, xA, xA, xA, xA, xA, xA, xA, xA, xA, xA, xA, xA, xA, xA, xA, xA, xA, xA, xA, xA, xA, xA, xA, xA, xA, xA, xA, xA, xA, xA, xA, xA, xA, xA, xA, xA, xA, xA, xA, xA, xA, xA, xA, xA, xA, xA, xA, xA, xA, xA, xA, xA, xA, xA, xA, xA, xA, xA, xA, xA, xA, xA, xA, xA, xA, xA, xA, xA, xA, xA, xA, xA, xA, xA, xA, xA, xA, xA, xA, xA, xA, xA, xA, xA, .any])
    (fun i => [some (.box 69 (txC t)), some (.box 69 [iC 0, .fz (.lit (.slice none 0 0)), .fz (.lit (.slice none 0 0))]), some (.box 69 [iC 0, .row 5 i, .row 6 0]), some (.box 69 [iC 0, .row 7 0, .row 8 i]), some (.box 23 (hc (sumS (encT t)))), some (.row 83 35 (inpv (clmI t (l.take i)))), some (.row 148 2 []), some (.row 83 35 []), some (.row 148 2 (outv (clmA t (l.take i))))]) 0 [0, 1, 2, 3, 104, 4, 5, 6, 7]
    (Nat.zero_le _) (by simp [I, Ptr, USL]) (by simp [iC, txC, inpv, outv, clmI, clmA]) (by simp) (by simp) (by simp) ?_
  clear hlt hi
  intro i hi
  simp [I, Ptr, iC, txC, USL, -Int.natCast_add]
  refine alt (fun hlt => ?_) (fun hlt => ?_)
  · have hln : i < l.length := by omega
    obtain ⟨q, hcq⟩ : ∃ q, l[i]? = some q := ⟨l[i], by simp [hln]⟩
    have hge : (usev l)[i]'(by simp [hln]) = useF q := gE (usev_get hcq)
    have hqo := hl q (List.mem_of_getElem? hcq)
    obtain ⟨x, hcx⟩ : ∃ x, t.outs[q.o]? = some x := ⟨t.outs[q.o]'hqo.1, by simp [hqo.1]⟩
    have hgx : (outv t.outs)[q.o]'(by simp [hqo.1]) = outF x := gE (outv_get hcx)
    have w1 := wS (i := i) (by omega)
    have hT : inpv (clmI t (l.take (i + 1))) = inpv (clmI t (l.take i)) ++ [inpF ⟨sumS (encT t), q.o, q.b, q.sec⟩] := by rw [List.take_add_one, hcq]; simp [clmI_snoc, inpv]
    have hU : outv (clmA t (l.take (i + 1))) = outv (clmA t (l.take i)) ++ [outF x] := by rw [List.take_add_one, hcq]; simp [clmA_snoc, outv, hcx]
    have hTl : (l.take i).length = i := by simp; omega
    simp [hln, hge, useF, hsl, hst, d33, d32, hTl, hqo.1, hgx, outF, iF, w1, drop33i, drop33z, frzAll_hc, tk33x hsl, tk34x hsl, dr34x hsl, dr35x hsl, iC, -Int.natCast_add]
    refine ⟨⟨by omega, by omega⟩, ⟨by omega, by omega⟩, ?_⟩
    exact round (i + 1) [0, 1, 2, 3, 4, 409, 6, 7, 649] (by omega) (by omega) (by simp [I, Ptr, USL, -Int.natCast_add]) (by simp [hT, hU, inpF, outF, iF, iC, txC]) (by simp) (by simp) (by simp)
  have hil : i = l.length := by omega
  subst hil
  simp
  have hTA := RTxTotal_ok ⟨0, [], clmA t l⟩ ⟨by simp [i64], by simp, clmA_ok ht, by simp, by simp; omega⟩
  have hTT : ECalls Tryz.prog 106 [.v (.agg [iC 0, .row 0 0, .row 1 l.length])] [.row 83 35 [], .row 148 2 (outv (clmA t l))] (fun y H' => H' = [none, none] ∧ y = .tup [.c (iC (totO 0 (clmA t l)).1), .c (iC ((totO 0 (clmA t l)).2 : Int))]) :=
    ecalls_thaw2 hTA (by simp [TXv, txC, inpv, iC, List.take_of_length_le])
  refine callH [7, 8] hTT (by simp [iC]) (by simp) (by simp) (by simp) (by simp) ?_
  rintro y H' ⟨rfl, rfl⟩
  refine ⟨.inl (by simp), by simp, ?_⟩
  obtain ⟨q1, q2⟩ := totO_le (clmA t l) 0 (by omega) (by omega)
  have wn : IntKind.i64.wrap ((totO 0 (clmA t l)).1 - fee) = (totO 0 (clmA t l)).1 - fee := wrap_i64 (by omega) (by omega)
  by_cases ce : (totO 0 (clmA t l)).2 = 0
  rotate_left
  · rw [show clmS t l who fee = (zTx, (totO 0 (clmA t l)).2) by unfold clmS; rw [if_neg (by simp [c1]; omega), if_neg (by simpa using c4), if_pos ce]]
    simp [ce, iC]
    refine finW _ (weak_nlB (o := 1) (k := 1) 35 rfl rfl) (finW _ (weak_nlB (o := 1) (k := 2) 2 rfl rfl) ?_)
    exact fin0
  rw [show clmS t l who fee = donT (clmT t l who fee) by unfold clmS; rw [if_neg (by simp [c1]; omega), if_neg (by simpa using c4), if_neg (by simpa using ce)]]
  simp [ce, iC]
  refine call0 (rAll_ok [who] (keys_one _).1) (by simp [IL, intv]) ?_
  rintro y H' ⟨rfl, rfl⟩
  refine ⟨.inl (by simp [CNv]), le_ok rfl, ?_⟩
  simp [CNv, wn, iC]
  have hDT : ECalls Tryz.prog 48 [.v (.agg [iC 0, .row 0 l.length, .row 1 1])] [.row 83 35 (inpv (clmI t l)), .row 148 2 (outv (clmT t l who fee).outs)] (fun y H' => H' = [none, none] ∧ y = .tup [.agg (txC (donT (clmT t l who fee)).1), .c (.fz (.lit (.int .i64 (donT (clmT t l who fee)).2)))]) :=
    ecalls_thaw2 (RDone_ok (clmT t l who fee) (clmT_ok ht hn hl hn2 (by omega) (by omega) hw).1) (by simp [TXv, txC, clmT, iC, outv, List.take_of_length_le])
  refine callH [5, 377] hDT (by simp [iC]) (by simp [clmT, outv, outF, iF]) (by simp) (by simp) (by simp) ?_
  rintro y H' ⟨rfl, rfl⟩
  refine ⟨.inl (by simp), by simp, ?_⟩
  simp [txC, iC]
  exact fin0
@[simp] def yl17o : UL | _ => [xQ 0 5 (.box 28 (.t 0)), xQ 1 6 (.box 32 (.t 1)), xQ 2 9 (.box 23 (.t 4)), xQ 3 10 (.alloc 69 [xZ, xS, xS]), xQ 4 11 (.mov (xK 0))]
@[simp] def yl17p : UL | _ => [xQ 6 24 (.ext 0 (.t 18)), xQ 7 25 (.ext 1 (.t 18)), xQ 8 12 (.alloc 69 [xZ, xS, xS]), xN 9 (.fz (.sto 3 (.t 12) (.t 24))), xM 10 13 25]
@[simp] def yl17q : UL | _ => xQ 0 19 (.lda 38 (.t 5)) :: xQ 1 20 (.lda 5 (.t 6)) :: xM 2 21 2 :: xQ 3 22 (.lda 32 (.t 9)) :: xO 4 23 (.call 19 [(.t 19), (.t 20), (.t 21), (.t 22)]) :: xM 5 18 23 :: hid yl17p
@[simp] def yl17r : UL | _ => [xM 0 26 13, xQ 1 27 (.bin .neq (.t 26) (xK 0))]
@[simp] def yl17s : UL | _ => [xQ 0 28 (.build [xZ, xS, xS] []), xM 1 29 13, xN 2 (.fz (.sto 3 (.t 10) (.t 28))), xM 3 11 29]
@[simp] def yb17t : UB | _ => .seq (reg0 (hid yl17r) 2) (.cond (.t 27) (.seq (reg0 (hid yl17s) 4) .ret) .skip)
@[simp] def yl17u : UL | _ => [xQ 6 36 (.ext 1 (.t 30)), xM 7 14 35, xM 8 15 36]
@[simp] def yl17v : UL | _ => xQ 0 31 (.lda 38 (.t 5)) :: xQ 1 32 (.lda 5 (.t 6)) :: xM 2 33 2 :: xO 3 34 (.call 16 [(.t 31), (.t 32), (.t 33)]) :: xM 4 30 34 :: xQ 5 35 (.ext 0 (.t 30)) :: hid yl17u
@[simp] def yl17w : UL | _ => [xQ 0 16 (.mov (.k xS))]
@[simp] def yl17x : UL | _ => [xQ 0 17 (.mov (xK 0))]
@[simp] def yl17y : UL | _ => [xM 0 37 17, xM 1 38 14, xQ 2 39 (.len (.t 38)), xQ 3 40 (.bin .lss (.t 37) (.t 39))]
@[simp] def yl17z : UL | _ => [xM 0 43 14, xM 1 44 17, xQ 2 45 (.isl 2 (.t 43) (.t 44)), xQ 3 46 (.fad 0 (.t 45)), xQ 4 47 (.ldc (.t 46))]
@[simp] def yl180 : UL | _ => [xQ 0 49 (.bin .eql (.t 47) (xK 1)), xM 1 48 49]
@[simp] def yl181 : UL | _ => [xM 6 16 55]
@[simp] def yl182 : UL | _ => xM 0 50 16 :: xM 1 51 17 :: xM 2 52 3 :: xQ 3 53 (.build [xZ, xZ, xS] [(0, 1, (.t 51)), (1, 1, (xK 1)), (2, 1, (.t 52))]) :: xO 4 54 (.fz (.q (.bsl 3 [xZ, xZ, xS] 1 [(0, (.t 53))]))) :: xO 5 55 (.app 154 3 40 (.t 50) (.t 54)) :: hid yl181
@[simp] def yl183 : UL | _ => [xQ 0 57 (.bin .eql (.t 47) (xK 2)), xM 1 56 57]
@[simp] def yl184 : UL | _ => [xM 0 58 16, xM 1 59 17, xQ 2 60 (.build [xZ, xZ, xS] [(0, 1, (.t 59)), (1, 1, (xK 0)), (2, 1, (.k xS))]), xO 3 61 (.fz (.q (.bsl 3 [xZ, xZ, xS] 1 [(0, (.t 60))]))), xO 4 62 (.app 154 3 40 (.t 58) (.t 61)), xM 5 16 62]
@[simp] def yl185 : UL | _ => [xQ 0 64 (.bin .eql (.t 47) (xK 3)), xM 1 63 64]
@[simp] def yl186 : UL | _ => [xM 6 16 70]
@[simp] def yl187 : UL | _ => xM 0 65 16 :: xM 1 66 17 :: xM 2 67 3 :: xQ 3 68 (.build [xZ, xZ, xS] [(0, 1, (.t 66)), (1, 1, (xK 2)), (2, 1, (.t 67))]) :: xO 4 69 (.fz (.q (.bsl 3 [xZ, xZ, xS] 1 [(0, (.t 68))]))) :: xO 5 70 (.app 154 3 40 (.t 65) (.t 69)) :: hid yl186
@[simp] def yb188 : UB | _ => .seq (reg0 (hid yl185) 2) (.cond (.t 63) (reg0 (hid yl187) 7) .skip)
@[simp] def yb189 : UB | _ => .seq (reg0 (hid yl183) 2) (.cond (.t 56) (reg0 (hid yl184) 6) (hid yb188))
@[simp] def yb18a : UB | _ => .seq (reg0 (hid yl180) 2) (.cond (.t 48) (reg0 (hid yl182) 7) (hid yb189))
@[simp] def yl18b : UL | _ => [xM 0 41 17, xQ 1 42 (.bin .add (.t 41) (xK 1)), xM 2 17 42]
@[simp] def yb18c : UB | _ => .seq (.block 1 (.seq (reg0 (hid yl17z) 5) (.block 2 (hid yb18a)))) (reg0 (hid yl18b) 3)
@[simp] def yb18d : UB | _ => .seq (.seq (reg0 (hid yl17y) 4) (.cond (.t 40) .skip (.exit 0))) (hid yb18c)
@[simp] def yl18e : UL | _ => [xN 12 (.fz (.sto 3 (.t 10) (.t 81))), xM 13 11 82]
@[simp] def yl18f : UL | _ => xQ 6 77 (.ldc (.t 76)) :: xQ 7 78 (.fad 37 (.t 5)) :: xQ 8 79 (.ldc (.t 78)) :: xO 9 80 (.call 61 [(.t 71), (.t 72), (.t 77), (.t 79)]) :: xQ 10 81 (.ext 0 (.t 80)) :: xQ 11 82 (.ext 1 (.t 80)) :: hid yl18e
@[simp] def yl18g : UL | _ => xQ 0 71 (.lda 3 (.t 12)) :: xM 1 72 16 :: xM 2 73 2 :: xQ 3 74 (.bin .sub (xK 1) (.t 73)) :: xQ 4 75 (.fad 34 (.t 5)) :: xQ 5 76 (.iad 2 1 (.t 75) (.t 74)) :: hid yl18f
@[simp] def yb18h : UB | _ => .seq (.seq (reg0 (hid yl17x) 1) (.block 0 (.loop (hid yb18d)))) (.seq (reg0 (hid yl18g) 14) .ret)
@[simp] def yb18i : UB | _ => .seq (reg0 (hid yl17v) 9) (.seq (reg0 (hid yl17w) 1) (hid yb18h))
@[simp] def yb18j : UB | _ => .seq (reg0 (hid yl17o) 5) (.seq (reg0 (hid yl17q) 11) (.seq (hid yb17t) (hid yb18i)))
def c_RPen : EB × List QOp × Nat := ((hid yb18j), [(.lda 3 (.t 10)), (.mov (.t 11))], 83)
theorem k_RPen : cfun Tryz.prog 30 = some c_RPen := by kernel_rfl
set_option maxRecDepth 8000 in
theorem RPen_ok (p : Prm) (s : Sta) (o : Int) (sec : List UInt8) (hp : p.ok) (hs : s.ok) (ho : i64 o) (hsec : sec.length ≤ 10000) :
    ECalls Tryz.prog 30 [PVv p, SV s, I .i64 o, Bs sec, .v (.agg (hc (sumS sec)))] [] fun y H' => H' = [] ∧ y = .tup [.agg (txC (penS p s o sec).1), .c (.fz (.lit (Value.int .i64 (penS p s o sec).2)))] := by
  have h1 := hp.1
  have lp := prmC_len h1
  have tp := pm_take h1
  have hsl := sumS_len sec
  have hst : List.take 32 (sumS sec) = sumS sec := List.take_of_length_le (by omega)
  refine ecalls k_RPen ?_
  simp [c_RPen, PVv, SV, staC, Bs, I, lp, tp, iC, hsl, hst]
  refine call0 (RCommit_ok p s o (sumS sec) hp hs hsl) (by simp [PVv, SV, staC, I]) ?_
  rintro y H' ⟨rfl, rfl⟩
  refine ⟨.inl (by simp), le_ok rfl, ?_⟩
  by_cases c : (cmtS p s o (sumS sec)).2 = 0
  rotate_left
  · rw [show penS p s o sec = (zTx, (cmtS p s o (sumS sec)).2) from if_pos c]
    simp [c, txC, iC]
    refine finW _ (weak_nlB (o := 48) (k := 1) 35 rfl rfl) (finW _ (weak_nlB (o := 48) (k := 2) 2 rfl rfl) ?_)
    exact fin0
  obtain ⟨c1, c2, c3⟩ := cmt_0 c
  rw [show penS p s o sec = clmS (cmtS p s o (sumS sec)).1 (uzB sec 0 (plcB p s o)) (keyO p (1 - o)) p.fe from if_neg (by simpa using c), c3]
  have hcok := cmtT_ok (o := o) hp hs hsl c1
  obtain ⟨d1, d2⟩ := outsB_ok (o := o) hp hs hsl c1
  have hpl := plc_len p s o (sumS sec)
  have hP := RPlaces_ok p s o hp hs
  rw [show plcS p s o = (plcB p s o, 0) by unfold plcS; rw [if_neg (by simpa using c1), if_neg (fun q => q c2)]] at hP
  have hC := RClaim_ok (cmtT p s o (sumS sec)) (uzB sec 0 (plcB p s o)) (keyO p (1 - o)) p.fe hcok (by intro x hx; simp [cmtT] at hx; subst hx; rfl) (cmt_small hp hs hsl c1) (use_ok hsec) (by show (outsB p s o (sumS sec)).length ≤ _; omega) (by have := uzB_len sec (plcB p s o) 0; omega) (keyO_i64 hp _)
  rw [c]
  simp [txC, iC, PVv, SV, staC, I, lp, tp]
  refine call0 hP (by simp [PVv, SV, staC, I]) ?_
  rintro y H' ⟨rfl, rfl⟩
  refine ⟨.inl (by simp), le_ok rfl, ?_⟩
  simp [PVv, SV, staC, Bs, I, lp, tp, iC]
  refine loopW _ (weak_nilR 16 154 3 rfl (by omega)) ?_
  have e34 := idx_of (pm_at h1 2) (by omega)
  have e35 := idx_of (pm_at h1 3) (by omega)
  have e37 := idx_of (pm_at h1 5) (by omega)
  obtain ⟨Q, hQ⟩ : ∃ Q, plcB p s o = Q := ⟨_, rfl⟩
  obtain ⟨t, ht⟩ : ∃ t, cmtT p s o (sumS sec) = t := ⟨_, rfl⟩
  rw [hQ, ht] at hC ⊢
  have hQ2 : Q.length ≤ 20 := by rw [← hQ]; omega
  obtain ⟨K, hKd⟩ : ∃ K : Nat → List Usx, K = fun i => uzB sec 0 (Q.take i) := ⟨_, rfl⟩
  have hK0 : K 0 = [] := by rw [hKd]; rfl
  have hKn : uzB sec 0 Q = K Q.length := by rw [hKd]; simp
  have hKl : ∀ i, (K i).length ≤ 20 := by
    intro i
    rw [hKd]
    have := uzB_len sec (Q.take i) 0
    simp only [List.length_take] at this
    dsimp only
    omega
  have hKs : ∀ i q, Q[i]? = some q → K (i + 1) = K i ++ usU i q sec := by
    intro i q h
    have hil := lt_of_get h
    rw [hKd]
    dsimp only
    rw [List.take_add_one, h]
    simp only [Option.toList_some]
    rw [uzB_snoc]
    simp [Nat.min_eq_left (Nat.le_of_lt hil)]
  rw [hKn] at hC ⊢
  refine eloop (α := Nat) (fun i => i ≤ Q.length) (fun i => Q.length - i)
    (fun i => [xA, xA, I .i64 o, Bs sec, xA, Ptr 0, xA, xA, xA, xA, Ptr 3, xA, Ptr 4, xA, .v (.c (.fz (.sl 2 (plcv Q)))), xA, .v (.c (.row 5 (K i).length)), I .i64 i, xA, xA, xA, xA, xA, xA, xA, xA, xA, xA, xA, xA, xA, xA, xA, xA, xA, xA, xA, xA, xA, xA, xA, xA, xA, xA, xA, xA, xA, xA, xA, xA, xA, xA, xA, xA, xA, xA, xA, xA, xA, xA, xA, xA, xA, xA, xA, xA, xA, xA, xA, xA, xA, xA, xA, xA, xA, xA, xA, xA, xA, xA, xA, xA, .any])
    (fun i => [some (.box 28 (prmC p)), some (.box 32 (staC s)), some (.box 23 (hc (sumS sec))), some (.box 69 [iC 0, .fz (.lit (.slice none 0 0)), .fz (.lit (.slice none 0 0))]), some (.box 69 (txC t)), some (.row 154 3 (usg (K i)))]) 0 [0, 16, 32, 48, 208, 464]
    (Nat.zero_le _) (by simp [I, Ptr, Bs, hK0]) (by simp [iC, txC, staC, hK0, usg]) (by simp) (by simp) (by simp) ?_
  intro i hi
  have hKi := hKl i
  simp [I, Ptr, iC, txC, staC, Bs, -Int.natCast_add]
  refine alt (fun hlt => ?_) (fun hlt => ?_)
  · have hln : i < Q.length := by omega
    obtain ⟨⟨kd, ki⟩, hcq⟩ : ∃ q, Q[i]? = some q := ⟨Q[i], by simp [hln]⟩
    have hge : (plcv Q)[i]'(by simp [hln]) = plcF (kd, ki) := by
      have e : (plcv Q)[i]? = some (plcF (kd, ki)) := by simp [plcv, hcq]
      rw [List.getElem?_eq_getElem (by simp [hln])] at e
      exact Option.some.inj e
    have w1 := wS (i := i) (by omega)
    have hT := hKs i _ hcq
    unfold usU at hT
    simp [hln, hge, plcF, iF, -Int.natCast_add]
    by_cases g1 : kd = 1
    · subst g1
      have hv : K (i + 1) = K i ++ [⟨i, 1, sec⟩] := hT
      simp [w1, -Int.natCast_add]
      refine ⟨⟨by omega, by omega⟩, ?_⟩
      exact round (i + 1) [0, 1, 2, 3, 4, 262] (by omega) (by omega) (by simp [I, Ptr, Bs, hv, -Int.natCast_add]) (by simp [hv, usg, useG, useF, iF, iC, txC, staC]) (by simp) (by simp) (by simp)
    by_cases g2 : kd = 2
    · subst g2
      have hv : K (i + 1) = K i ++ [⟨i, 0, []⟩] := hT
      simp [w1, -Int.natCast_add]
      refine ⟨⟨by omega, by omega⟩, ?_⟩
      exact round (i + 1) [0, 1, 2, 3, 4, 278] (by omega) (by omega) (by simp [I, Ptr, Bs, hv, -Int.natCast_add]) (by simp [hv, usg, useG, useF, gN, bsv, iF, iC, txC, staC]) (by simp) (by simp) (by simp)
    by_cases g3 : kd = 3
    · subst g3
      have hv : K (i + 1) = K i ++ [⟨i, 2, sec⟩] := hT
      simp [w1, -Int.natCast_add]
      refine ⟨⟨by omega, by omega⟩, ?_⟩
      exact round (i + 1) [0, 1, 2, 3, 4, 326] (by omega) (by omega) (by simp [I, Ptr, Bs, hv, -Int.natCast_add]) (by simp [hv, usg, useG, useF, iF, iC, txC, staC]) (by simp) (by simp) (by simp)
    have hv : K (i + 1) = K i := by rw [hT]; simp [g1, g2, g3]
    simp [g1, g2, g3, w1, -Int.natCast_add]
    exact round (i + 1) [0, 1, 2, 3, 4, 5] (by omega) (by omega) (by simp [I, Ptr, Bs, hv, -Int.natCast_add]) (by simp [hv, iC, txC, staC]) (by simp) (by simp) (by simp)
  have hil : i = Q.length := by omega
  subst hil
  have hU : ECalls Tryz.prog 61 [TXv t, .v (.c (.row 0 (K Q.length).length)), I .i64 (keyO p (1 - o)), I .i64 p.fe] [.row 154 3 (usg (K Q.length))] (fun y H' => H' = [none] ∧ y = .tup [.agg (txC (clmS t (K Q.length) (keyO p (1 - o)) p.fe).1), .c (.fz (.lit (.int .i64 (clmS t (K Q.length) (keyO p (1 - o)) p.fe).2)))]) :=
    ecalls_thaw (ecalls_mix (usg_le (K Q.length)) hC) (by simp [TXv, txC, I, iC, List.take_of_length_le])
  clear hC
  rcases c2 with rfl | rfl
  · simp [w_0, w_1, e34, e35, e37, lp, I, iC]
    refine callH [5] hU (by simp [TXv, txC, I, iC, keyO]) (by simp) (by simp) (by simp) (by simp) ?_
    rintro y H' ⟨rfl, rfl⟩
    refine ⟨.inl (by simp), by simp, ?_⟩
    simp [txC, iC]
    exact fin0
  · simp [w_0, w_1, e34, e35, e37, lp, I, iC]
    refine callH [5] hU (by simp [TXv, txC, I, iC, keyO]) (by simp) (by simp) (by simp) (by simp) ?_
    rintro y H' ⟨rfl, rfl⟩
    refine ⟨.inl (by simp), by simp, ?_⟩
    simp [txC, iC]
    exact fin0
@[simp] def yl18k : UL | _ => [xQ 0 3 (.box 28 (.t 0)), xQ 1 4 (.box 32 (.t 1)), xQ 2 5 (.box 59 (.t 2)), xQ 3 6 (.mov (.k (.bool false)))]
@[simp] def yl18l : UL | _ => [xQ 0 13 (.fad 0 (.t 5)), xQ 1 14 (.ldc (.t 13)), xQ 2 15 (.fad 33 (.t 5)), xQ 3 16 (.ldc (.t 15)), xM 4 7 14, xM 5 8 16]
@[simp] def yl18m : UL | _ => [xQ 6 23 (.pick (.t 19) (.k (.bool true)) (.t 22))]
@[simp] def yl18n : UL | _ => xQ 0 17 (.lda 5 (.t 4)) :: xO 1 18 (.call 11 [(.t 17)]) :: xM 2 19 18 :: xG 3 20 19 false (.mov (.t 8)) :: xG 4 21 19 false (.len (.t 20)) :: xG 5 22 19 false (.bin .gtr (.t 21) (xK 200)) :: hid yl18m
@[simp] def yl18o : UL | _ => [xO 0 24 (.call 12 []), xM 1 6 24]
@[simp] def yb18p : UB | _ => .seq (reg0 (hid yl18n) 7) (.cond (.t 23) (.seq (reg0 (hid yl18o) 2) .ret) .skip)
@[simp] def yl18q : UL | _ => [xM 12 10 34]
@[simp] def yl18r : UL | _ => ⟨3, (some 29), none, (.call 15 [(.t 28)]), [4, 5, 10]⟩ :: ⟨6, (some 32), none, (.call 29 [(.t 27), (.t 29), (.t 30), (.t 31)]), [10]⟩ :: xM 7 25 32 :: xQ 8 33 (.ext 0 (.t 25)) :: xQ 9 34 (.ext 1 (.t 25)) :: ⟨11, none, none, (.fz (.sto 3 (.t 9) (.t 33))), [9]⟩ :: hid yl18q
@[simp] def yl18s : UL | _ => xQ 0 26 (.lda 38 (.t 3)) :: xQ 2 28 (.lda 5 (.t 4)) :: xM 4 30 7 :: xM 5 31 8 :: xQ 10 9 (.alloc 63 [xZ, xS, xS]) :: ⟨1, (some 27), none, (.call 14 [(.t 26)]), [2, 4, 5, 10]⟩ :: hid yl18r
@[simp] def yl18t : UL | _ => [xM 12 12 44]
@[simp] def yl18u : UL | _ => ⟨5, (some 41), none, (.call 31 [(.t 40)]), [0, 1, 2, 3, 10]⟩ :: ⟨6, (some 42), none, (.call 30 [(.t 36), (.t 37), (.t 38), (.t 39), (.t 41)]), [10]⟩ :: xM 7 35 42 :: xQ 8 43 (.ext 0 (.t 35)) :: xQ 9 44 (.ext 1 (.t 35)) :: ⟨11, none, none, (.fz (.sto 3 (.t 11) (.t 43))), [9]⟩ :: hid yl18t
@[simp] def yl18v : UL | _ => xQ 0 36 (.lda 38 (.t 3)) :: xQ 1 37 (.lda 5 (.t 4)) :: xM 2 38 7 :: xM 3 39 8 :: xM 4 40 8 :: xQ 10 11 (.alloc 69 [xZ, xS, xS]) :: hid yl18u
@[simp] def yl18w : UL | _ => [⟨6, (some 51), (some (50, true)), (.call 12 []), []⟩, xQ 7 52 (.pick (.t 50) (.t 51) (.k (.bool false))), xM 8 6 52]
@[simp] def yl18x : UL | _ => xQ 0 45 (.lda 3 (.t 9)) :: xM 1 46 10 :: xQ 2 47 (.lda 3 (.t 11)) :: xM 3 48 12 :: xO 4 49 (.call 22 [(.t 45), (.t 46), (.t 47), (.t 48)]) :: xM 5 50 49 :: hid yl18w
@[simp] def yb18y : UB | _ => .seq (reg1 (hid yl18v) 13) (.seq (reg0 (hid yl18x) 9) .ret)
@[simp] def yb18z : UB | _ => .seq (hid yb18p) (.seq (reg1 (hid yl18s) 13) (hid yb18y))
@[simp] def yb190 : UB | _ => .seq (reg0 (hid yl18k) 4) (.seq (reg0 (hid yl18l) 6) (hid yb18z))
def c_BuildPen : EB × List QOp × Nat := ((hid yb190), [(.mov (.t 6))], 53)
theorem k_BuildPen : cfun Tryz.prog 7 = some c_BuildPen := by kernel_rfl
theorem ow_33 {lock : List UInt8} (o : Int) (sec : List UInt8) (hl : lock.length = 32) : (owC o lock sec)[33]? = some (.fz (.sl 1 (bsv sec))) := by
  have e : (hc lock).length = 32 := by rw [hc_len, hl]
  unfold owC
  rw [List.getElem?_cons_succ, List.getElem?_append_right (by omega), e]; rfl
set_option maxRecDepth 8000 in
theorem BuildPenalties_ok (p : Prm) (s : Sta) (o : Int) (lock sec : List UInt8) (hp : p.ok) (hs : s.ok) (ho : i64 o) (hl : lock.length = 32) (hsl : sec.length ≤ 10000000) : ECalls Tryz.prog 7 [PVv p, SV s, OwV o lock sec] [] fun y H' => H' = [] ∧ y = .lit (.bool true) := by
  have h1 := hp.1
  have lp := prmC_len h1
  have tp := pm_take h1
  have lo : (owC o lock sec).length = 34 := by simp [owC, hl]
  have e33 := idx_of (ow_33 o sec hl) (by omega)
  have o0 : (owC o lock sec)[0]? = some (iC o) := rfl
  have e0 := idx_of o0 (by omega)
  refine ecalls k_BuildPen ?_
  simp [c_BuildPen, OwV, lo, e33, e0, PVv, SV, staC, I, lp, tp, iC, -errV_0]
  refine call0 (longState_ok s hs) (by simp [SV, staC]) ?_
  rintro y H' ⟨rfl, rfl⟩
  refine ⟨.inl (by simp), le_ok rfl, ?_⟩
  cases hl1 : longS s
  rotate_left
  · simp [-errV_0]
    refine call0 sure_ok (by simp) ?_
    rintro y H' ⟨rfl, rfl⟩
    refine ⟨.inl (by simp), le_ok rfl, ?_⟩
    simp [-errV_0]
    exact fin0
  have ms := (longS_small hl1).1
  simp [PVv, SV, staC, I, lp, tp, iC, -errV_0]
  refine alt (fun c => ?_) (fun c => ?_)
  · simp [-errV_0]
    refine call0 sure_ok (by simp) ?_
    rintro y H' ⟨rfl, rfl⟩
    refine ⟨.inl (by simp), le_ok rfl, ?_⟩
    simp [-errV_0]
    exact fin0
  have hs2 : sec.length ≤ 10000 := by omega
  simp [PVv, SV, staC, I, lp, tp, iC, -errV_0]
  refine call0 (giveP_ok p h1) (by simp [PVv]) ?_
  rintro y H' ⟨rfl, rfl⟩
  refine ⟨.inl (by simp [PVv]), le_ok rfl, ?_⟩
  simp [PVv, SV, staC, I, lp, tp, iC, -errV_0]
  refine call0 (giveState_ok s hs ms) (by simp [SV, staC]) ?_
  rintro y H' ⟨rfl, rfl⟩
  refine ⟨.inl (by simp [SV, staC]), le_ok rfl, ?_⟩
  simp [PVv, SV, staC, I, lp, tp, iC, -errV_0]
  have hB := BPen_ok p s o sec hp hs ho hs2
  have hR := RPen_ok p s o sec hp hs ho hs2
  obtain ⟨hco, hcs⟩ := penS_ok (o := o) hp hs hs2
  generalize penS p s o sec = q at hB hR hco hcs
  obtain ⟨t, ec⟩ := q
  dsimp only at hB hR hco hcs
  refine call0 hB (by simp [PVv, SV, staC, I, Bs, iC]) ?_
  rintro y H' ⟨rfl, rfl⟩
  refine ⟨.inl (by simp [txC, iC]), le_ok rfl, ?_⟩
  simp [PVv, SV, staC, I, lp, tp, iC, txC, -errV_0]
  refine call0 (RSum_ok sec (by omega)) (by simp [Bs]) ?_
  rintro y H' ⟨rfl, rfl⟩
  refine ⟨.inl (by simp), le_ok rfl, ?_⟩
  simp [PVv, SV, staC, I, lp, tp, iC, txC, -errV_0]
  refine call0 hR (by simp [PVv, SV, staC, I, Bs, iC]) ?_
  rintro y H' ⟨rfl, rfl⟩
  refine ⟨.inl (by simp [txC, iC]), le_ok rfl, ?_⟩
  simp [PVv, SV, staC, I, lp, tp, iC, txC, -errV_0]
  refine call0 (same_ok t ec hco hcs) (by simp [TXv, txC, iC, I]) ?_
  rintro y H' ⟨rfl, rfl⟩
  refine ⟨.inl (by simp), le_ok rfl, ?_⟩
  simp [-errV_0]
  refine call0 sure_ok (by simp) ?_
  rintro y H' ⟨rfl, rfl⟩
  refine ⟨.inl (by simp), le_ok rfl, ?_⟩
  simp [-errV_0]
  exact fin0
end Go.Proofs.YtflcfdeanneoeaaGreatDoor
