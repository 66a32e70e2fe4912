import Derived.Test.YtflcfdeanneoeaaGreatDoorAll11
set_option maxHeartbeats 64000000
namespace Go.Proofs.YtflcfdeanneoeaaGreatDoor
open Go Go.EW
set_option linter.unusedSimpArgs false
set_option linter.unusedVariables false
@[simp] def yl96 : UL | _ => [xQ 0 1 (.box 123 (.t 0)), xQ 1 2 (.mov (.k xS)), xQ 2 3 (.mov (.k xS))]
@[simp] def yl97 : UL | _ => [xQ 0 4 (.alloc 61 [xS])]
@[simp] def yl98 : UL | _ => [xQ 0 5 (.alloc 35 [xS])]
@[simp] def yl99 : UL | _ => [xQ 0 11 (.mkf 85 [(.t 4), (.t 1), (.t 5)]), xM 1 6 11]
@[simp] def yl9a : UL | _ => [xQ 6 18 (.fad 43 (.t 1)), xQ 7 19 (.ldc (.t 18)), xO 8 20 (.call 56 [(.t 15), (.t 17), (.t 19)]), xO 9 21 (.clo (.t 12) [(xK 1), (.t 13), (.t 20), (.k (.func (.func 86) #[] #[]))])]
@[simp] def yl9b : UL | _ => xM 0 12 6 :: xQ 1 13 (.build (([xZ, xZ, xZ, xZ] : List Value) ++ zU8) []) :: xQ 2 14 (.fad 0 (.t 1)) :: xQ 3 15 (.lda 38 (.t 14)) :: xQ 4 16 (.fad 38 (.t 1)) :: xQ 5 17 (.lda 5 (.t 16)) :: hid yl9a
@[simp] def yl9c : UL | _ => [xQ 6 28 (.fad 43 (.t 1)), xQ 7 29 (.ldc (.t 28)), xQ 8 30 (.bin .sub (xK 1) (.t 29)), xO 9 31 (.call 56 [(.t 25), (.t 27), (.t 30)]), xO 10 32 (.clo (.t 22) [(xK 2), (.t 23), (.t 31), (.k (.func (.func 87) #[] #[]))])]
@[simp] def yl9d : UL | _ => xM 0 22 6 :: xQ 1 23 (.build (([xZ, xZ, xZ, xZ] : List Value) ++ zU8) []) :: xQ 2 24 (.fad 0 (.t 1)) :: xQ 3 25 (.lda 38 (.t 24)) :: xQ 4 26 (.fad 38 (.t 1)) :: xQ 5 27 (.lda 5 (.t 26)) :: hid yl9c
@[simp] def yl9e : UL | _ => [xQ 0 33 (.fad 38 (.t 1)), xQ 1 34 (.fad 3 (.t 33)), xQ 2 35 (.ldc (.t 34)), xQ 3 36 (.len (.t 35)), xQ 4 37 (.mov (xK 0))]
@[simp] def yl9f : UL | _ => [xQ 0 38 (.bin .lss (.t 37) (.t 36))]
@[simp] def yl9g : UL | _ => [xQ 0 39 (.isl 36 (.t 35) (.t 37)), xQ 1 40 (.lda 36 (.t 39)), xQ 2 8 (.alloc 126 (([xZ, xZ, xZ, xZ] : List Value) ++ zU8)), xN 3 (.sto 36 (.t 8) (.t 40))]
@[simp] def yl9h : UL | _ => [xM 0 41 6, xQ 1 42 (.lda 36 (.t 8)), xQ 2 43 (.fad 2 (.t 8)), xQ 3 44 (.ldc (.t 43)), xO 4 45 (.clo (.t 41) [(xK 3), (.t 42), (.t 44), (.k (.func (.func 88) #[] #[]))])]
@[simp] def yl9i : UL | _ => [xQ 0 46 (.bin .add (.t 37) (xK 1)), xM 1 37 46]
@[simp] def yb9j : UB | _ => .seq (.block 1 (.seq (reg0 (hid yl9g) 4) (reg0 (hid yl9h) 5))) (reg0 (hid yl9i) 2)
@[simp] def yb9k : UB | _ => .seq (reg0 (hid yl9f) 1) (.seq (.cond (.t 38) .skip (.exit 0)) (hid yb9j))
@[simp] def yl9l : UL | _ => [xQ 0 47 (.fad 38 (.t 1)), xQ 1 48 (.fad 4 (.t 47)), xQ 2 49 (.ldc (.t 48)), xQ 3 50 (.len (.t 49)), xQ 4 51 (.mov (xK 0))]
@[simp] def yl9m : UL | _ => [xQ 0 52 (.bin .lss (.t 51) (.t 50))]
@[simp] def yl9n : UL | _ => [xQ 0 53 (.isl 3 (.t 49) (.t 51)), xQ 1 54 (.lda 3 (.t 53)), xQ 2 10 (.alloc 128 [xZ, xZ, xS]), xN 3 (.fz (.sto 3 (.t 10) (.t 54)))]
@[simp] def yl9o : UL | _ => [xQ 6 61 (.build [xZ, xS] [(0, 1, (.t 57)), (1, 1, (.t 60))]), ⟨7, (some 62), none, (.fz (.q (.bsl 2 [xZ, xS] 1 [(0, (.t 61))]))), [0]⟩, xO 8 63 (.app 118 2 32 (.t 55) (.t 62)), xN 9 (.fz (.sto 1 (.t 4) (.t 63)))]
@[simp] def yl9p : UL | _ => xQ 0 55 (.ldc (.t 4)) :: xQ 1 56 (.fad 1 (.t 10)) :: xQ 2 57 (.ldc (.t 56)) :: xQ 3 58 (.fad 2 (.t 10)) :: xQ 4 59 (.ldc (.t 58)) :: ⟨5, (some 60), none, (.call 57 [(.t 59)]), [0, 1, 2]⟩ :: hid yl9o
@[simp] def yl9q : UL | _ => [xN 6 (.fz (.sto 1 (.t 5) (.t 69)))]
@[simp] def yl9r : UL | _ => xQ 0 64 (.ldc (.t 5)) :: xQ 1 65 (.fad 0 (.t 10)) :: xQ 2 66 (.ldc (.t 65)) :: xQ 3 67 (.build [xZ, xZ] [(0, 1, (xK 4)), (1, 1, (.t 66))]) :: xQ 4 68 (.bsl 2 [xZ, xZ] 1 [(0, (.t 67))]) :: xO 5 69 (.app 54 2 16 (.t 64) (.t 68)) :: hid yl9q
@[simp] def yb9s : UB | _ => .seq (reg0 (hid yl9n) 4) (.seq (reg1 (hid yl9p) 10) (reg0 (hid yl9r) 7))
@[simp] def yl9t : UL | _ => [xQ 0 70 (.bin .add (.t 51) (xK 1)), xM 1 51 70]
@[simp] def yb9u : UB | _ => .seq (.cond (.t 52) .skip (.exit 2)) (.seq (.block 3 (hid yb9s)) (reg0 (hid yl9t) 2))
@[simp] def yb9v : UB | _ => .seq (reg0 (hid yl9l) 5) (.block 2 (.loop (.seq (reg0 (hid yl9m) 1) (hid yb9u))))
@[simp] def yl9w : UL | _ => [xQ 0 71 (.ldc (.t 4)), xQ 1 72 (.ldc (.t 5)), xM 2 2 71, xM 3 3 72]
@[simp] def yb9x : UB | _ => .seq (.seq (reg0 (hid yl9e) 5) (.block 0 (.loop (hid yb9k)))) (.seq (hid yb9v) (.seq (reg0 (hid yl9w) 4) .ret))
@[simp] def yb9y : UB | _ => .seq (reg0 (hid yl9b) 10) (.seq (reg0 (hid yl9d) 11) (hid yb9x))
@[simp] def yb9z : UB | _ => .seq (reg0 (hid yl98) 1) (.seq (reg0 (hid yl99) 2) (hid yb9y))
@[simp] def yba0 : UB | _ => .seq (reg0 (hid yl96) 3) (.seq (reg0 (hid yl97) 1) (hid yb9z))
def c_BOuts : EB × List QOp × Nat := ((hid yba0), [(.mov (.t 2)), (.mov (.t 3))], 73)
theorem k_BOuts : cfun Tryz.prog 44 = some c_BOuts := by kernel_rfl
def zPy : Pay := ⟨0, 0, 0, 0, hz⟩
theorem mk_41 {p : Prm} {lock : List UInt8} (h : p.tx.length = 32) (s : Sta) (o : Int) : (mkC p s o lock)[41]? = some (.fz (.sl 36 (payv s.pays))) := by
  rw [show 41 = 38 + 3 from rfl, ← List.getElem?_drop, mk_d38 h]; rfl
theorem mk_42 {p : Prm} {lock : List UInt8} (h : p.tx.length = 32) (s : Sta) (o : Int) : (mkC p s o lock)[42]? = some (.fz (.sl 3 (holv s.holds))) := by
  rw [show 42 = 38 + 4 from rfl, ← List.getElem?_drop, mk_d38 h]; rfl
theorem zpid : zPy.id = 0 := rfl
theorem zpay : EC.fz (FV.lit (.int .i64 0)) :: EC.fz (FV.lit (.int .i64 0)) :: EC.fz (FV.lit (.int .i64 0)) :: EC.fz (FV.lit (.int .i64 0)) :: hc hz = payC zPy := rfl
def out1 (p : Prm) (s : Sta) (o : Int) (lock : List UInt8) : List Outp := if 10 ≤ hasP p s o then [⟨hasP p s o, ownB p o lock⟩] else []
def out2 (p : Prm) (s : Sta) (o : Int) : List Outp := if 10 ≤ hasP p s (1 - o) then [⟨hasP p s (1 - o), allB [keyO p (1 - o)]⟩] else []
def outP (p : Prm) (o : Int) (lock : List UInt8) (l : List Pay) : List Outp := l.map fun x => ⟨x.am, paidB p o lock x⟩
def outH (l : List Hol) : List Outp := l.map fun h => ⟨h.am, allB h.keys⟩
def outsB (p : Prm) (s : Sta) (o : Int) (lock : List UInt8) : List Outp := (out1 p s o lock ++ out2 p s o) ++ (outP p o lock s.pays ++ outH s.holds)
def plc1 (p : Prm) (s : Sta) (o : Int) : List (Int × Int) := if 10 ≤ hasP p s o then [(1, 0)] else []
def plc2 (p : Prm) (s : Sta) (o : Int) : List (Int × Int) := if 10 ≤ hasP p s (1 - o) then [(2, 0)] else []
def plcP (l : List Pay) : List (Int × Int) := l.map fun x => (3, x.id)
def plcH (l : List Hol) : List (Int × Int) := l.map fun h => (4, h.id)
def plcB (p : Prm) (s : Sta) (o : Int) : List (Int × Int) := (plc1 p s o ++ plc2 p s o) ++ (plcP s.pays ++ plcH s.holds)
theorem BLay_body : bodyOK Tryz.prog 85 = true := by kernel_rfl
theorem BOwn_body : bodyOK Tryz.prog 86 = true := by kernel_rfl
theorem BOther_body : bodyOK Tryz.prog 87 = true := by kernel_rfl
theorem BPaid_body : bodyOK Tryz.prog 88 = true := by kernel_rfl
theorem BOuts_ok (p : Prm) (s : Sta) (o : Int) (lock : List UInt8) (hp : p.ok) (hl : lock.length = 32) (ho : o = 0 ∨ o = 1) (hs : s.ok) (hw : i64 (s.h0 - p.fe)) (hn : s.pays.length ≤ 8 ∧ s.holds.length ≤ 8) (hpay : ∀ x ∈ s.pays, 10 ≤ x.am ∧ (x.fr = 0 ∨ x.fr = 1)) (hhol : ∀ h ∈ s.holds, KeysOK h.keys) :
    ECalls Tryz.prog 44 [MKv p s o lock] [] fun y H' => H' = [] ∧ y = .tup [.c (.fz (.sl 2 (outv (outsB p s o lock)))), .c (.fz (.sl 2 (plcv (plcB p s o))))] := by
  have hpo := hp
  replace hp := hp.1
  obtain ⟨ok1, ok2, ok3, ok4, ok5, ok6, ok7⟩ := id hs
  have l0 := mk_len hp hl s o
  have t0 := mk_take hp hl s o
  have mp := mk_p (lock := lock) hp s o
  have ms := mk_s (lock := lock) hp s o
  have e43 := idx_of (mk_43 (lock := lock) hp s o) (by omega)
  have wo : IntKind.i64.wrap (1 - o) = 1 - o := by rcases ho with rfl | rfl <;> decide +kernel
  have e41 := idx_of (mk_41 (lock := lock) hp s o) (by omega)
  have e42 := idx_of (mk_42 (lock := lock) hp s o) (by omega)
  have hB1 := BHas_ok p s o hp hw
  have hB2 := BHas_ok p s (1 - o) hp hw
  have hown := BOwn_ok p s o lock zPy hpo hl ho rfl
  have hoth := BOther_ok p s o lock zPy hpo hl ho rfl
  refine ecalls k_BOuts ?_
  simp [c_BOuts, MKv, SV, PVv, staC, I, Ptr, l0, t0, mp, ms, e43, iC, layH, layN, wo, zpay, zpid, e41, e42]
  refine call0 hB1 (by simp [MKv, SV, PVv, staC, I, Ptr, l0, t0, mp, ms, e43, iC, layH, layN, wo, zpay, zpid, e41, e42]) ?_
  rintro y H' ⟨rfl, rfl⟩
  refine ⟨.inl (by simp [I]), le_ok rfl, ?_⟩
  simp [MKv, SV, PVv, staC, I, Ptr, l0, t0, mp, ms, e43, iC, layH, layN, wo, zpay, zpid, e41, e42]
  refine ⟨BLay_body, ?_⟩
  by_cases c0 : 10 ≤ hasP p s o
  · have hv1 : out1 p s o lock = ([⟨hasP p s o, ownB p o lock⟩] : List Outp) := if_pos c0
    have hq1 : plc1 p s o = ([(1, 0)] : List (Int × Int)) := if_pos c0
    refine callH [48, 0, 64] (lay_nil (BLay_yes 86 (ownB p o lock) p s o 1 (hasP p s o) lock zPy [] [] c0 rfl hp hl (by simp) (by simp) BOwn_body hown)) (by simp [I, Ptr]) (by simp [layH, layN]) (by simp) (by simp) (by simp) ?_
    rintro y H' ⟨rfl, rfl⟩
    refine ⟨.inl (by simp), by simp [layH], ?_⟩
    simp [MKv, SV, PVv, staC, I, Ptr, l0, t0, mp, ms, e43, iC, layH, layN, wo, zpay, zpid, e41, e42]
    refine call0 hB2 (by simp [MKv, SV, PVv, staC, I, Ptr, l0, t0, mp, ms, e43, iC, layH, layN, wo, zpay, zpid, e41, e42]) ?_
    rintro y H' ⟨rfl, rfl⟩
    refine ⟨.inl (by simp [I]), le_ok rfl, ?_⟩
    simp [MKv, SV, PVv, staC, I, Ptr, l0, t0, mp, ms, e43, iC, layH, layN, wo, zpay, zpid, e41, e42]
    refine ⟨BLay_body, ?_⟩
    by_cases c1 : 10 ≤ hasP p s (1 - o)
    · have hv2 : out2 p s o = ([⟨hasP p s (1 - o), allB [keyO p (1 - o)]⟩] : List Outp) := if_pos c1
      have hq2 : plc2 p s o = ([(2, 0)] : List (Int × Int)) := if_pos c1
      refine callH [48, 0, 64, 258, 259] (BLay_yes 87 (allB [keyO p (1 - o)]) p s o 2 (hasP p s (1 - o)) lock zPy [⟨hasP p s o, ownB p o lock⟩] [(1, 0)] c1 rfl hp hl (by simp) (by simp) BOther_body hoth) (by simp [I, Ptr]) (by simp [layH, layN]) (by simp) (by simp) (by simp) ?_
      rintro y H' ⟨rfl, rfl⟩
      refine ⟨.inl (by simp), by simp [layH], ?_⟩
      simp [MKv, SV, PVv, staC, I, Ptr, l0, t0, mp, ms, e43, iC, layH, layN, wo, zpay, zpid, e41, e42]
      obtain ⟨L0, hL0⟩ : ∃ L0, ([⟨hasP p s o, ownB p o lock⟩] ++ [⟨hasP p s (1 - o), allB [keyO p (1 - o)]⟩] : List Outp) = L0 := ⟨_, rfl⟩
      obtain ⟨Q0, hQ0⟩ : ∃ Q0, ([(1, 0)] ++ [(2, 0)] : List (Int × Int)) = Q0 := ⟨_, rfl⟩
      have hL8 : L0.length ≤ 2 := by rw [← hL0]; simp
      have hQ8 : Q0.length ≤ 2 := by rw [← hQ0]; simp
      have hvL : outsB p s o lock = L0 ++ (outP p o lock s.pays ++ outH s.holds) := by rw [← hL0]; unfold outsB; rw [hv1, hv2]
      have hvQ : plcB p s o = Q0 ++ (plcP s.pays ++ plcH s.holds) := by rw [← hQ0]; unfold plcB; rw [hq1, hq2]
      refine eloop (α := Nat) (fun i => i ≤ s.pays.length) (fun i => s.pays.length - i)
        (fun i => [xA, Ptr 0, xA, xA, Ptr 1, Ptr 2, .v (.c (.clo 85 [(1, 0), (0, 0), (2, 0)])), xA, xA, xA, xA, xA, xA, xA, xA, xA, xA, xA, xA, xA, xA, xA, xA, xA, xA, xA, xA, xA, xA, xA, xA, xA, xA, xA, xA, PL s.pays, I .i64 s.pays.length, I .i64 i, xA, xA, xA, xA, xA, xA, xA, xA, xA, xA, xA, xA, xA, xA, xA, xA, xA, xA, xA, xA, xA, xA, xA, xA, xA, xA, xA, xA, xA, xA, xA, xA, xA, xA, .any])
        (fun i => [some (.box 123 (mkC p s o lock)), some (.box 61 [.row 3 (L0 ++ outP p o lock (s.pays.take i)).length]), some (.box 35 [.row 4 (Q0 ++ plcP (s.pays.take i)).length]), some (.row 118 2 (outv (L0 ++ outP p o lock (s.pays.take i)))), some (.row 54 2 (plcv (Q0 ++ plcP (s.pays.take i))))]) 0 [0, 48, 64, 432, 433]
        (Nat.zero_le _) (by simp [Ptr, I, PL]) (by simp [outP, plcP, ← hL0, ← hQ0]) (by simp) (by simp) (by simp) ?_
      intro i hi
      obtain ⟨Li, hLi⟩ : ∃ Li, L0 ++ outP p o lock (s.pays.take i) = Li := ⟨_, rfl⟩
      obtain ⟨Qi, hQi⟩ : ∃ Qi, Q0 ++ plcP (s.pays.take i) = Qi := ⟨_, rfl⟩
      have hlL : Li.length ≤ 20 := by rw [← hLi]; simp [outP]; omega
      have hlQ : Qi.length ≤ 20 := by rw [← hQi]; simp [plcP]; omega
      rw [hLi, hQi]
      simp [Ptr, I, PL]
      refine alt (fun hlt => ?_) (fun hlt => ?_)
      · have hln : i < s.pays.length := by omega
        obtain ⟨x, hc⟩ : ∃ x, s.pays[i]? = some x := ⟨s.pays[i], by simp [hln]⟩
        have hge : (payv s.pays)[i]'(by simp [hln]) = payF x := gE (payv_get hc)
        have hxo := ok4 x (List.mem_of_getElem? hc)
        have hx := hxo.2.2.2.2
        obtain ⟨ham, hfr⟩ := hpay x (List.mem_of_getElem? hc)
        have lp := payC_len hx
        have lf := payF_len hx
        have tp := payC_take hx
        have e2 : (payC x)[2]? = some (.fz (.lit (.int .i64 x.am))) := rfl
        have e2 := idx_of e2 (by omega)
        have w1 := wS (i := i) (by omega)
        have hpd := BPaid_ok p s o lock x hpo hl ho hx hfr
        have hLn : L0 ++ outP p o lock (s.pays.take (i + 1)) = Li ++ [⟨x.am, paidB p o lock x⟩] := by rw [take_s hc, ← hLi]; simp [outP]
        have hQn : Q0 ++ plcP (s.pays.take (i + 1)) = Qi ++ [(3, x.id)] := by rw [take_s hc, ← hQi]; simp [plcP]
        simp [hln, hge, payF_fz, lp, lf, tp, e2]
        refine ⟨BLay_body, ?_⟩
        refine callH [1, 0, 2, 3, 4] (BLay_yes 88 (paidB p o lock x) p s o 3 x.am lock x Li Qi ham hx hp hl (by omega) (by omega) BPaid_body hpd) (by simp [I, Ptr]) (by simp [layH]) (by simp) (by simp) (by simp) ?_
        rintro y H' ⟨rfl, rfl⟩
        refine ⟨.inl (by simp), by simp, ?_⟩
        simp [w1, -Int.natCast_add]
        refine round (i + 1) [0, 1, 2, 149, 150] (by omega) (by omega) (by simp [Ptr, I, PL]) ?_ (by simp) (by simp) (by simp)
        have q1 := congrArg List.length hLn
        have q2 := congrArg List.length hQn
        simp only [List.length_append, List.length_singleton] at q1 q2
        rw [hLn, hQn]
        simp [q1, q2]
      have hil : i = s.pays.length := by omega
      subst hil
      rw [List.take_length] at hLi hQi
      clear hlt hi
      simp [l0, e42]
      refine eloop (α := Nat) (fun i => i ≤ s.holds.length) (fun i => s.holds.length - i)
        (fun i => [xA, xA, xA, xA, Ptr 0, Ptr 1, xA, xA, xA, xA, xA, xA, xA, xA, xA, xA, xA, xA, xA, xA, xA, xA, xA, xA, xA, xA, xA, xA, xA, xA, xA, xA, xA, xA, xA, xA, xA, xA, xA, xA, xA, xA, xA, xA, xA, xA, xA, xA, xA, HL s.holds, I .i64 s.holds.length, I .i64 i, xA, xA, xA, xA, xA, xA, xA, xA, xA, xA, xA, xA, xA, xA, xA, xA, xA, xA, xA, xA, .any])
        (fun i => [some (.box 61 [.row 2 (Li ++ outH (s.holds.take i)).length]), some (.box 35 [.row 3 (Qi ++ plcH (s.holds.take i)).length]), some (.row 118 2 (outv (Li ++ outH (s.holds.take i)))), some (.row 54 2 (plcv (Qi ++ plcH (s.holds.take i))))]) 0 [1, 2, 3, 4]
        (Nat.zero_le _) (by simp [Ptr, I, HL]) (by simp [outH, plcH]) (by simp) (by simp) (by simp) ?_
      intro i hi
      obtain ⟨Lj, hLj⟩ : ∃ Lj, Li ++ outH (s.holds.take i) = Lj := ⟨_, rfl⟩
      obtain ⟨Qj, hQj⟩ : ∃ Qj, Qi ++ plcH (s.holds.take i) = Qj := ⟨_, rfl⟩
      have hlL2 : Lj.length ≤ 40 := by rw [← hLj]; simp [outH]; omega
      have hlQ2 : Qj.length ≤ 40 := by rw [← hQj]; simp [plcH]; omega
      rw [hLj, hQj]
      simp [Ptr, I, HL]
      refine alt (fun hlt => ?_) (fun hlt => ?_)
      · have hln : i < s.holds.length := by omega
        obtain ⟨x, hc⟩ : ∃ x, s.holds[i]? = some x := ⟨s.holds[i], by simp [hln]⟩
        have hge : (holv s.holds)[i]'(by simp [hln]) = holF x := gE (holv_get hc)
        have hk := hhol x (List.mem_of_getElem? hc)
        have w1 := wS (i := i) (by omega)
        have hLn : Li ++ outH (s.holds.take (i + 1)) = Lj ++ [⟨x.am, allB x.keys⟩] := by rw [take_s hc, ← hLj]; simp [outH]
        have hQn : Qi ++ plcH (s.holds.take (i + 1)) = Qj ++ [(4, x.id)] := by rw [take_s hc, ← hQj]; simp [plcH]
        simp [hln, hge, holF]
        refine call0 (PAll_ok x.keys hk) (by simp [IL]) ?_
        rintro y H' ⟨rfl, rfl⟩
        refine ⟨.inl (by simp [CNv]), le_ok rfl, ?_⟩
        simp [CNv]
        refine ⟨⟨by omega, by omega⟩, ?_⟩
        try simp
        refine ⟨⟨by omega, by omega⟩, ?_⟩
        try simp [w1, -Int.natCast_add]
        have q1 := congrArg List.length hLn
        have q2 := congrArg List.length hQn
        simp only [List.length_append, List.length_singleton] at q1 q2
        have hol : outv Lj ++ [[FV.lit (Value.int IntKind.i64 x.am), FV.sl 35 (brav (allB x.keys))]] = outv (Lj ++ [⟨x.am, allB x.keys⟩]) := by simp [outv, outF, iF]
        have hpl : plcv Qj ++ [[FV.lit (Value.int IntKind.i64 4), FV.lit (Value.int IntKind.i64 x.id)]] = plcv (Qj ++ [(4, x.id)]) := by simp [plcv, plcF, iF]
        refine round (i + 1) [0, 1, 212, 324] (by omega) (by omega) (by simp [Ptr, I, HL]) ?_ (by simp) (by simp) (by simp)
        rw [hLn, hQn]
        simp [q1, q2, hol, hpl]
      have hil : i = s.holds.length := by omega
      subst hil
      rw [List.take_length] at hLj hQj
      clear hlt hi
      simp
      have tk1 : List.take Lj.length (outv Lj) = outv Lj := List.take_of_length_le (by simp)
      have tk2 : List.take Qj.length (plcv Qj) = plcv Qj := List.take_of_length_le (by simp)
      refine finW _ (weak_frz (o := 2) (ty := 118) (es := 2) (xs := outv Lj) rfl) ?_
      refine finW _ (weak_frz (o := 3) (ty := 54) (es := 2) (xs := plcv Qj) rfl) ?_
      refine fin [] (by decide) rfl rfl rfl ⟨rfl, ?_⟩
      have hL9 : outsB p s o lock = Lj := by rw [hvL, ← hLj, ← hLi, List.append_assoc]
      have hQ9 : plcB p s o = Qj := by rw [hvQ, ← hQj, ← hQi, List.append_assoc]
      rw [hL9, hQ9]
      simp [tk1, tk2]
    · have hv2 : out2 p s o = ([] : List Outp) := if_neg c1
      have hq2 : plc2 p s o = ([] : List (Int × Int)) := if_neg c1
      refine callH [48, 0, 64, 258, 259] (BLay_no 87 p s o 2 (hasP p s (1 - o)) lock zPy [⟨hasP p s o, ownB p o lock⟩] [(1, 0)] (by omega) rfl) (by simp [I, Ptr]) (by simp [layH, layN]) (by simp) (by simp) (by simp) ?_
      rintro y H' ⟨rfl, rfl⟩
      refine ⟨.inl (by simp), by simp [layH], ?_⟩
      simp [MKv, SV, PVv, staC, I, Ptr, l0, t0, mp, ms, e43, iC, layH, layN, wo, zpay, zpid, e41, e42]
      obtain ⟨L0, hL0⟩ : ∃ L0, ([⟨hasP p s o, ownB p o lock⟩] ++ [] : List Outp) = L0 := ⟨_, rfl⟩
      obtain ⟨Q0, hQ0⟩ : ∃ Q0, ([(1, 0)] ++ [] : List (Int × Int)) = Q0 := ⟨_, rfl⟩
      have hL8 : L0.length ≤ 2 := by rw [← hL0]; simp
      have hQ8 : Q0.length ≤ 2 := by rw [← hQ0]; simp
      have hvL : outsB p s o lock = L0 ++ (outP p o lock s.pays ++ outH s.holds) := by rw [← hL0]; unfold outsB; rw [hv1, hv2]
      have hvQ : plcB p s o = Q0 ++ (plcP s.pays ++ plcH s.holds) := by rw [← hQ0]; unfold plcB; rw [hq1, hq2]
      refine eloop (α := Nat) (fun i => i ≤ s.pays.length) (fun i => s.pays.length - i)
        (fun i => [xA, Ptr 0, xA, xA, Ptr 1, Ptr 2, .v (.c (.clo 85 [(1, 0), (0, 0), (2, 0)])), xA, xA, xA, xA, xA, xA, xA, xA, xA, xA, xA, xA, xA, xA, xA, xA, xA, xA, xA, xA, xA, xA, xA, xA, xA, xA, xA, xA, PL s.pays, I .i64 s.pays.length, I .i64 i, xA, xA, xA, xA, xA, xA, xA, xA, xA, xA, xA, xA, xA, xA, xA, xA, xA, xA, xA, xA, xA, xA, xA, xA, xA, xA, xA, xA, xA, xA, xA, xA, xA, xA, .any])
        (fun i => [some (.box 123 (mkC p s o lock)), some (.box 61 [.row 3 (L0 ++ outP p o lock (s.pays.take i)).length]), some (.box 35 [.row 4 (Q0 ++ plcP (s.pays.take i)).length]), some (.row 118 2 (outv (L0 ++ outP p o lock (s.pays.take i)))), some (.row 54 2 (plcv (Q0 ++ plcP (s.pays.take i))))]) 0 [0, 48, 64, 258, 259]
        (Nat.zero_le _) (by simp [Ptr, I, PL]) (by simp [outP, plcP, ← hL0, ← hQ0]) (by simp) (by simp) (by simp) ?_
      intro i hi
      obtain ⟨Li, hLi⟩ : ∃ Li, L0 ++ outP p o lock (s.pays.take i) = Li := ⟨_, rfl⟩
      obtain ⟨Qi, hQi⟩ : ∃ Qi, Q0 ++ plcP (s.pays.take i) = Qi := ⟨_, rfl⟩
      have hlL : Li.length ≤ 20 := by rw [← hLi]; simp [outP]; omega
      have hlQ : Qi.length ≤ 20 := by rw [← hQi]; simp [plcP]; omega
      rw [hLi, hQi]
      simp [Ptr, I, PL]
      refine alt (fun hlt => ?_) (fun hlt => ?_)
      · have hln : i < s.pays.length := by omega
        obtain ⟨x, hc⟩ : ∃ x, s.pays[i]? = some x := ⟨s.pays[i], by simp [hln]⟩
        have hge : (payv s.pays)[i]'(by simp [hln]) = payF x := gE (payv_get hc)
        have hxo := ok4 x (List.mem_of_getElem? hc)
        have hx := hxo.2.2.2.2
        obtain ⟨ham, hfr⟩ := hpay x (List.mem_of_getElem? hc)
        have lp := payC_len hx
        have lf := payF_len hx
        have tp := payC_take hx
        have e2 : (payC x)[2]? = some (.fz (.lit (.int .i64 x.am))) := rfl
        have e2 := idx_of e2 (by omega)
        have w1 := wS (i := i) (by omega)
        have hpd := BPaid_ok p s o lock x hpo hl ho hx hfr
        have hLn : L0 ++ outP p o lock (s.pays.take (i + 1)) = Li ++ [⟨x.am, paidB p o lock x⟩] := by rw [take_s hc, ← hLi]; simp [outP]
        have hQn : Q0 ++ plcP (s.pays.take (i + 1)) = Qi ++ [(3, x.id)] := by rw [take_s hc, ← hQi]; simp [plcP]
        simp [hln, hge, payF_fz, lp, lf, tp, e2]
        refine ⟨BLay_body, ?_⟩
        refine callH [1, 0, 2, 3, 4] (BLay_yes 88 (paidB p o lock x) p s o 3 x.am lock x Li Qi ham hx hp hl (by omega) (by omega) BPaid_body hpd) (by simp [I, Ptr]) (by simp [layH]) (by simp) (by simp) (by simp) ?_
        rintro y H' ⟨rfl, rfl⟩
        refine ⟨.inl (by simp), by simp, ?_⟩
        simp [w1, -Int.natCast_add]
        refine round (i + 1) [0, 1, 2, 149, 150] (by omega) (by omega) (by simp [Ptr, I, PL]) ?_ (by simp) (by simp) (by simp)
        have q1 := congrArg List.length hLn
        have q2 := congrArg List.length hQn
        simp only [List.length_append, List.length_singleton] at q1 q2
        rw [hLn, hQn]
        simp [q1, q2]
      have hil : i = s.pays.length := by omega
      subst hil
      rw [List.take_length] at hLi hQi
      clear hlt hi
      simp [l0, e42]
      refine eloop (α := Nat) (fun i => i ≤ s.holds.length) (fun i => s.holds.length - i)
        (fun i => [xA, xA, xA, xA, Ptr 0, Ptr 1, xA, xA, xA, xA, xA, xA, xA, xA, xA, xA, xA, xA, xA, xA, xA, xA, xA, xA, xA, xA, xA, xA, xA, xA, xA, xA, xA, xA, xA, xA, xA, xA, xA, xA, xA, xA, xA, xA, xA, xA, xA, xA, xA, HL s.holds, I .i64 s.holds.length, I .i64 i, xA, xA, xA, xA, xA, xA, xA, xA, xA, xA, xA, xA, xA, xA, xA, xA, xA, xA, xA, xA, .any])
        (fun i => [some (.box 61 [.row 2 (Li ++ outH (s.holds.take i)).length]), some (.box 35 [.row 3 (Qi ++ plcH (s.holds.take i)).length]), some (.row 118 2 (outv (Li ++ outH (s.holds.take i)))), some (.row 54 2 (plcv (Qi ++ plcH (s.holds.take i))))]) 0 [1, 2, 3, 4]
        (Nat.zero_le _) (by simp [Ptr, I, HL]) (by simp [outH, plcH]) (by simp) (by simp) (by simp) ?_
      intro i hi
      obtain ⟨Lj, hLj⟩ : ∃ Lj, Li ++ outH (s.holds.take i) = Lj := ⟨_, rfl⟩
      obtain ⟨Qj, hQj⟩ : ∃ Qj, Qi ++ plcH (s.holds.take i) = Qj := ⟨_, rfl⟩
      have hlL2 : Lj.length ≤ 40 := by rw [← hLj]; simp [outH]; omega
      have hlQ2 : Qj.length ≤ 40 := by rw [← hQj]; simp [plcH]; omega
      rw [hLj, hQj]
      simp [Ptr, I, HL]
      refine alt (fun hlt => ?_) (fun hlt => ?_)
      · have hln : i < s.holds.length := by omega
        obtain ⟨x, hc⟩ : ∃ x, s.holds[i]? = some x := ⟨s.holds[i], by simp [hln]⟩
        have hge : (holv s.holds)[i]'(by simp [hln]) = holF x := gE (holv_get hc)
        have hk := hhol x (List.mem_of_getElem? hc)
        have w1 := wS (i := i) (by omega)
        have hLn : Li ++ outH (s.holds.take (i + 1)) = Lj ++ [⟨x.am, allB x.keys⟩] := by rw [take_s hc, ← hLj]; simp [outH]
        have hQn : Qi ++ plcH (s.holds.take (i + 1)) = Qj ++ [(4, x.id)] := by rw [take_s hc, ← hQj]; simp [plcH]
        simp [hln, hge, holF]
        refine call0 (PAll_ok x.keys hk) (by simp [IL]) ?_
        rintro y H' ⟨rfl, rfl⟩
        refine ⟨.inl (by simp [CNv]), le_ok rfl, ?_⟩
        simp [CNv]
        refine ⟨⟨by omega, by omega⟩, ?_⟩
        try simp
        refine ⟨⟨by omega, by omega⟩, ?_⟩
        try simp [w1, -Int.natCast_add]
        have q1 := congrArg List.length hLn
        have q2 := congrArg List.length hQn
        simp only [List.length_append, List.length_singleton] at q1 q2
        have hol : outv Lj ++ [[FV.lit (Value.int IntKind.i64 x.am), FV.sl 35 (brav (allB x.keys))]] = outv (Lj ++ [⟨x.am, allB x.keys⟩]) := by simp [outv, outF, iF]
        have hpl : plcv Qj ++ [[FV.lit (Value.int IntKind.i64 4), FV.lit (Value.int IntKind.i64 x.id)]] = plcv (Qj ++ [(4, x.id)]) := by simp [plcv, plcF, iF]
        refine round (i + 1) [0, 1, 212, 324] (by omega) (by omega) (by simp [Ptr, I, HL]) ?_ (by simp) (by simp) (by simp)
        rw [hLn, hQn]
        simp [q1, q2, hol, hpl]
      have hil : i = s.holds.length := by omega
      subst hil
      rw [List.take_length] at hLj hQj
      clear hlt hi
      simp
      have tk1 : List.take Lj.length (outv Lj) = outv Lj := List.take_of_length_le (by simp)
      have tk2 : List.take Qj.length (plcv Qj) = plcv Qj := List.take_of_length_le (by simp)
      refine finW _ (weak_frz (o := 2) (ty := 118) (es := 2) (xs := outv Lj) rfl) ?_
      refine finW _ (weak_frz (o := 3) (ty := 54) (es := 2) (xs := plcv Qj) rfl) ?_
      refine fin [] (by decide) rfl rfl rfl ⟨rfl, ?_⟩
      have hL9 : outsB p s o lock = Lj := by rw [hvL, ← hLj, ← hLi, List.append_assoc]
      have hQ9 : plcB p s o = Qj := by rw [hvQ, ← hQj, ← hQi, List.append_assoc]
      rw [hL9, hQ9]
      simp [tk1, tk2]
  · have hv1 : out1 p s o lock = ([] : List Outp) := if_neg c0
    have hq1 : plc1 p s o = ([] : List (Int × Int)) := if_neg c0
    refine callH [48, 0, 64] (lay_nil (BLay_no 86 p s o 1 (hasP p s o) lock zPy [] [] (by omega) rfl)) (by simp [I, Ptr]) (by simp [layH, layN]) (by simp) (by simp) (by simp) ?_
    rintro y H' ⟨rfl, rfl⟩
    refine ⟨.inl (by simp), by simp [layH], ?_⟩
    simp [MKv, SV, PVv, staC, I, Ptr, l0, t0, mp, ms, e43, iC, layH, layN, wo, zpay, zpid, e41, e42]
    refine call0 hB2 (by simp [MKv, SV, PVv, staC, I, Ptr, l0, t0, mp, ms, e43, iC, layH, layN, wo, zpay, zpid, e41, e42]) ?_
    rintro y H' ⟨rfl, rfl⟩
    refine ⟨.inl (by simp [I]), le_ok rfl, ?_⟩
    simp [MKv, SV, PVv, staC, I, Ptr, l0, t0, mp, ms, e43, iC, layH, layN, wo, zpay, zpid, e41, e42]
    refine ⟨BLay_body, ?_⟩
    by_cases c1 : 10 ≤ hasP p s (1 - o)
    · have hv2 : out2 p s o = ([⟨hasP p s (1 - o), allB [keyO p (1 - o)]⟩] : List Outp) := if_pos c1
      have hq2 : plc2 p s o = ([(2, 0)] : List (Int × Int)) := if_pos c1
      refine callH [48, 0, 64, 256, 257] (BLay_yes 87 (allB [keyO p (1 - o)]) p s o 2 (hasP p s (1 - o)) lock zPy [] [] c1 rfl hp hl (by simp) (by simp) BOther_body hoth) (by simp [I, Ptr]) (by simp [layH, layN]) (by simp) (by simp) (by simp) ?_
      rintro y H' ⟨rfl, rfl⟩
      refine ⟨.inl (by simp), by simp [layH], ?_⟩
      simp [MKv, SV, PVv, staC, I, Ptr, l0, t0, mp, ms, e43, iC, layH, layN, wo, zpay, zpid, e41, e42]
      obtain ⟨L0, hL0⟩ : ∃ L0, ([] ++ [⟨hasP p s (1 - o), allB [keyO p (1 - o)]⟩] : List Outp) = L0 := ⟨_, rfl⟩
      obtain ⟨Q0, hQ0⟩ : ∃ Q0, ([] ++ [(2, 0)] : List (Int × Int)) = Q0 := ⟨_, rfl⟩
      have hL8 : L0.length ≤ 2 := by rw [← hL0]; simp
      have hQ8 : Q0.length ≤ 2 := by rw [← hQ0]; simp
      have hvL : outsB p s o lock = L0 ++ (outP p o lock s.pays ++ outH s.holds) := by rw [← hL0]; unfold outsB; rw [hv1, hv2]
      have hvQ : plcB p s o = Q0 ++ (plcP s.pays ++ plcH s.holds) := by rw [← hQ0]; unfold plcB; rw [hq1, hq2]
      refine eloop (α := Nat) (fun i => i ≤ s.pays.length) (fun i => s.pays.length - i)
        (fun i => [xA, Ptr 0, xA, xA, Ptr 1, Ptr 2, .v (.c (.clo 85 [(1, 0), (0, 0), (2, 0)])), xA, xA, xA, xA, xA, xA, xA, xA, xA, xA, xA, xA, xA, xA, xA, xA, xA, xA, xA, xA, xA, xA, xA, xA, xA, xA, xA, xA, PL s.pays, I .i64 s.pays.length, I .i64 i, xA, xA, xA, xA, xA, xA, xA, xA, xA, xA, xA, xA, xA, xA, xA, xA, xA, xA, xA, xA, xA, xA, xA, xA, xA, xA, xA, xA, xA, xA, xA, xA, xA, xA, .any])
        (fun i => [some (.box 123 (mkC p s o lock)), some (.box 61 [.row 3 (L0 ++ outP p o lock (s.pays.take i)).length]), some (.box 35 [.row 4 (Q0 ++ plcP (s.pays.take i)).length]), some (.row 118 2 (outv (L0 ++ outP p o lock (s.pays.take i)))), some (.row 54 2 (plcv (Q0 ++ plcP (s.pays.take i))))]) 0 [0, 48, 64, 432, 433]
        (Nat.zero_le _) (by simp [Ptr, I, PL]) (by simp [outP, plcP, ← hL0, ← hQ0]) (by simp) (by simp) (by simp) ?_
      intro i hi
      obtain ⟨Li, hLi⟩ : ∃ Li, L0 ++ outP p o lock (s.pays.take i) = Li := ⟨_, rfl⟩
      obtain ⟨Qi, hQi⟩ : ∃ Qi, Q0 ++ plcP (s.pays.take i) = Qi := ⟨_, rfl⟩
      have hlL : Li.length ≤ 20 := by rw [← hLi]; simp [outP]; omega
      have hlQ : Qi.length ≤ 20 := by rw [← hQi]; simp [plcP]; omega
      rw [hLi, hQi]
      simp [Ptr, I, PL]
      refine alt (fun hlt => ?_) (fun hlt => ?_)
      · have hln : i < s.pays.length := by omega
        obtain ⟨x, hc⟩ : ∃ x, s.pays[i]? = some x := ⟨s.pays[i], by simp [hln]⟩
        have hge : (payv s.pays)[i]'(by simp [hln]) = payF x := gE (payv_get hc)
        have hxo := ok4 x (List.mem_of_getElem? hc)
        have hx := hxo.2.2.2.2
        obtain ⟨ham, hfr⟩ := hpay x (List.mem_of_getElem? hc)
        have lp := payC_len hx
        have lf := payF_len hx
        have tp := payC_take hx
        have e2 : (payC x)[2]? = some (.fz (.lit (.int .i64 x.am))) := rfl
        have e2 := idx_of e2 (by omega)
        have w1 := wS (i := i) (by omega)
        have hpd := BPaid_ok p s o lock x hpo hl ho hx hfr
        have hLn : L0 ++ outP p o lock (s.pays.take (i + 1)) = Li ++ [⟨x.am, paidB p o lock x⟩] := by rw [take_s hc, ← hLi]; simp [outP]
        have hQn : Q0 ++ plcP (s.pays.take (i + 1)) = Qi ++ [(3, x.id)] := by rw [take_s hc, ← hQi]; simp [plcP]
        simp [hln, hge, payF_fz, lp, lf, tp, e2]
        refine ⟨BLay_body, ?_⟩
        refine callH [1, 0, 2, 3, 4] (BLay_yes 88 (paidB p o lock x) p s o 3 x.am lock x Li Qi ham hx hp hl (by omega) (by omega) BPaid_body hpd) (by simp [I, Ptr]) (by simp [layH]) (by simp) (by simp) (by simp) ?_
        rintro y H' ⟨rfl, rfl⟩
        refine ⟨.inl (by simp), by simp, ?_⟩
        simp [w1, -Int.natCast_add]
        refine round (i + 1) [0, 1, 2, 149, 150] (by omega) (by omega) (by simp [Ptr, I, PL]) ?_ (by simp) (by simp) (by simp)
        have q1 := congrArg List.length hLn
        have q2 := congrArg List.length hQn
        simp only [List.length_append, List.length_singleton] at q1 q2
        rw [hLn, hQn]
        simp [q1, q2]
      have hil : i = s.pays.length := by omega
      subst hil
      rw [List.take_length] at hLi hQi
      clear hlt hi
      simp [l0, e42]
      refine eloop (α := Nat) (fun i => i ≤ s.holds.length) (fun i => s.holds.length - i)
        (fun i => [xA, xA, xA, xA, Ptr 0, Ptr 1, xA, xA, xA, xA, xA, xA, xA, xA, xA, xA, xA, xA, xA, xA, xA, xA, xA, xA, xA, xA, xA, xA, xA, xA, xA, xA, xA, xA, xA, xA, xA, xA, xA, xA, xA, xA, xA, xA, xA, xA, xA, xA, xA, HL s.holds, I .i64 s.holds.length, I .i64 i, xA, xA, xA, xA, xA, xA, xA, xA, xA, xA, xA, xA, xA, xA, xA, xA, xA, xA, xA, xA, .any])
        (fun i => [some (.box 61 [.row 2 (Li ++ outH (s.holds.take i)).length]), some (.box 35 [.row 3 (Qi ++ plcH (s.holds.take i)).length]), some (.row 118 2 (outv (Li ++ outH (s.holds.take i)))), some (.row 54 2 (plcv (Qi ++ plcH (s.holds.take i))))]) 0 [1, 2, 3, 4]
        (Nat.zero_le _) (by simp [Ptr, I, HL]) (by simp [outH, plcH]) (by simp) (by simp) (by simp) ?_
      intro i hi
      obtain ⟨Lj, hLj⟩ : ∃ Lj, Li ++ outH (s.holds.take i) = Lj := ⟨_, rfl⟩
      obtain ⟨Qj, hQj⟩ : ∃ Qj, Qi ++ plcH (s.holds.take i) = Qj := ⟨_, rfl⟩
      have hlL2 : Lj.length ≤ 40 := by rw [← hLj]; simp [outH]; omega
      have hlQ2 : Qj.length ≤ 40 := by rw [← hQj]; simp [plcH]; omega
      rw [hLj, hQj]
      simp [Ptr, I, HL]
      refine alt (fun hlt => ?_) (fun hlt => ?_)
      · have hln : i < s.holds.length := by omega
        obtain ⟨x, hc⟩ : ∃ x, s.holds[i]? = some x := ⟨s.holds[i], by simp [hln]⟩
        have hge : (holv s.holds)[i]'(by simp [hln]) = holF x := gE (holv_get hc)
        have hk := hhol x (List.mem_of_getElem? hc)
        have w1 := wS (i := i) (by omega)
        have hLn : Li ++ outH (s.holds.take (i + 1)) = Lj ++ [⟨x.am, allB x.keys⟩] := by rw [take_s hc, ← hLj]; simp [outH]
        have hQn : Qi ++ plcH (s.holds.take (i + 1)) = Qj ++ [(4, x.id)] := by rw [take_s hc, ← hQj]; simp [plcH]
        simp [hln, hge, holF]
        refine call0 (PAll_ok x.keys hk) (by simp [IL]) ?_
        rintro y H' ⟨rfl, rfl⟩
        refine ⟨.inl (by simp [CNv]), le_ok rfl, ?_⟩
        simp [CNv]
        refine ⟨⟨by omega, by omega⟩, ?_⟩
        try simp
        refine ⟨⟨by omega, by omega⟩, ?_⟩
        try simp [w1, -Int.natCast_add]
        have q1 := congrArg List.length hLn
        have q2 := congrArg List.length hQn
        simp only [List.length_append, List.length_singleton] at q1 q2
        have hol : outv Lj ++ [[FV.lit (Value.int IntKind.i64 x.am), FV.sl 35 (brav (allB x.keys))]] = outv (Lj ++ [⟨x.am, allB x.keys⟩]) := by simp [outv, outF, iF]
        have hpl : plcv Qj ++ [[FV.lit (Value.int IntKind.i64 4), FV.lit (Value.int IntKind.i64 x.id)]] = plcv (Qj ++ [(4, x.id)]) := by simp [plcv, plcF, iF]
        refine round (i + 1) [0, 1, 212, 324] (by omega) (by omega) (by simp [Ptr, I, HL]) ?_ (by simp) (by simp) (by simp)
        rw [hLn, hQn]
        simp [q1, q2, hol, hpl]
      have hil : i = s.holds.length := by omega
      subst hil
      rw [List.take_length] at hLj hQj
      clear hlt hi
      simp
      have tk1 : List.take Lj.length (outv Lj) = outv Lj := List.take_of_length_le (by simp)
      have tk2 : List.take Qj.length (plcv Qj) = plcv Qj := List.take_of_length_le (by simp)
      refine finW _ (weak_frz (o := 2) (ty := 118) (es := 2) (xs := outv Lj) rfl) ?_
      refine finW _ (weak_frz (o := 3) (ty := 54) (es := 2) (xs := plcv Qj) rfl) ?_
      refine fin [] (by decide) rfl rfl rfl ⟨rfl, ?_⟩
      have hL9 : outsB p s o lock = Lj := by rw [hvL, ← hLj, ← hLi, List.append_assoc]
      have hQ9 : plcB p s o = Qj := by rw [hvQ, ← hQj, ← hQi, List.append_assoc]
      rw [hL9, hQ9]
      simp [tk1, tk2]
    · have hv2 : out2 p s o = ([] : List Outp) := if_neg c1
      have hq2 : plc2 p s o = ([] : List (Int × Int)) := if_neg c1
      refine callH [48, 0, 64, 256, 257] (BLay_no 87 p s o 2 (hasP p s (1 - o)) lock zPy [] [] (by omega) rfl) (by simp [I, Ptr]) (by simp [layH, layN]) (by simp) (by simp) (by simp) ?_
      rintro y H' ⟨rfl, rfl⟩
      refine ⟨.inl (by simp), by simp [layH], ?_⟩
      simp [MKv, SV, PVv, staC, I, Ptr, l0, t0, mp, ms, e43, iC, layH, layN, wo, zpay, zpid, e41, e42]
      obtain ⟨L0, hL0⟩ : ∃ L0, ([] ++ [] : List Outp) = L0 := ⟨_, rfl⟩
      obtain ⟨Q0, hQ0⟩ : ∃ Q0, ([] ++ [] : List (Int × Int)) = Q0 := ⟨_, rfl⟩
      have hL8 : L0.length ≤ 2 := by rw [← hL0]; simp
      have hQ8 : Q0.length ≤ 2 := by rw [← hQ0]; simp
      have hvL : outsB p s o lock = L0 ++ (outP p o lock s.pays ++ outH s.holds) := by rw [← hL0]; unfold outsB; rw [hv1, hv2]
      have hvQ : plcB p s o = Q0 ++ (plcP s.pays ++ plcH s.holds) := by rw [← hQ0]; unfold plcB; rw [hq1, hq2]
      refine eloop (α := Nat) (fun i => i ≤ s.pays.length) (fun i => s.pays.length - i)
        (fun i => [xA, Ptr 0, xA, xA, Ptr 1, Ptr 2, .v (.c (.clo 85 [(1, 0), (0, 0), (2, 0)])), xA, xA, xA, xA, xA, xA, xA, xA, xA, xA, xA, xA, xA, xA, xA, xA, xA, xA, xA, xA, xA, xA, xA, xA, xA, xA, xA, xA, PL s.pays, I .i64 s.pays.length, I .i64 i, xA, xA, xA, xA, xA, xA, xA, xA, xA, xA, xA, xA, xA, xA, xA, xA, xA, xA, xA, xA, xA, xA, xA, xA, xA, xA, xA, xA, xA, xA, xA, xA, xA, xA, .any])
        (fun i => [some (.box 123 (mkC p s o lock)), some (.box 61 [.row 3 (L0 ++ outP p o lock (s.pays.take i)).length]), some (.box 35 [.row 4 (Q0 ++ plcP (s.pays.take i)).length]), some (.row 118 2 (outv (L0 ++ outP p o lock (s.pays.take i)))), some (.row 54 2 (plcv (Q0 ++ plcP (s.pays.take i))))]) 0 [0, 48, 64, 256, 257]
        (Nat.zero_le _) (by simp [Ptr, I, PL]) (by simp [outP, plcP, ← hL0, ← hQ0]) (by simp) (by simp) (by simp) ?_
      intro i hi
      obtain ⟨Li, hLi⟩ : ∃ Li, L0 ++ outP p o lock (s.pays.take i) = Li := ⟨_, rfl⟩
      obtain ⟨Qi, hQi⟩ : ∃ Qi, Q0 ++ plcP (s.pays.take i) = Qi := ⟨_, rfl⟩
      have hlL : Li.length ≤ 20 := by rw [← hLi]; simp [outP]; omega
      have hlQ : Qi.length ≤ 20 := by rw [← hQi]; simp [plcP]; omega
      rw [hLi, hQi]
      simp [Ptr, I, PL]
      refine alt (fun hlt => ?_) (fun hlt => ?_)
      · have hln : i < s.pays.length := by omega
        obtain ⟨x, hc⟩ : ∃ x, s.pays[i]? = some x := ⟨s.pays[i], by simp [hln]⟩
        have hge : (payv s.pays)[i]'(by simp [hln]) = payF x := gE (payv_get hc)
        have hxo := ok4 x (List.mem_of_getElem? hc)
        have hx := hxo.2.2.2.2
        obtain ⟨ham, hfr⟩ := hpay x (List.mem_of_getElem? hc)
        have lp := payC_len hx
        have lf := payF_len hx
        have tp := payC_take hx
        have e2 : (payC x)[2]? = some (.fz (.lit (.int .i64 x.am))) := rfl
        have e2 := idx_of e2 (by omega)
        have w1 := wS (i := i) (by omega)
        have hpd := BPaid_ok p s o lock x hpo hl ho hx hfr
        have hLn : L0 ++ outP p o lock (s.pays.take (i + 1)) = Li ++ [⟨x.am, paidB p o lock x⟩] := by rw [take_s hc, ← hLi]; simp [outP]
        have hQn : Q0 ++ plcP (s.pays.take (i + 1)) = Qi ++ [(3, x.id)] := by rw [take_s hc, ← hQi]; simp [plcP]
        simp [hln, hge, payF_fz, lp, lf, tp, e2]
        refine ⟨BLay_body, ?_⟩
        refine callH [1, 0, 2, 3, 4] (BLay_yes 88 (paidB p o lock x) p s o 3 x.am lock x Li Qi ham hx hp hl (by omega) (by omega) BPaid_body hpd) (by simp [I, Ptr]) (by simp [layH]) (by simp) (by simp) (by simp) ?_
        rintro y H' ⟨rfl, rfl⟩
        refine ⟨.inl (by simp), by simp, ?_⟩
        simp [w1, -Int.natCast_add]
        refine round (i + 1) [0, 1, 2, 149, 150] (by omega) (by omega) (by simp [Ptr, I, PL]) ?_ (by simp) (by simp) (by simp)
        have q1 := congrArg List.length hLn
        have q2 := congrArg List.length hQn
        simp only [List.length_append, List.length_singleton] at q1 q2
        rw [hLn, hQn]
        simp [q1, q2]
      have hil : i = s.pays.length := by omega
      subst hil
      rw [List.take_length] at hLi hQi
      clear hlt hi
      simp [l0, e42]
      refine eloop (α := Nat) (fun i => i ≤ s.holds.length) (fun i => s.holds.length - i)
        (fun i => [xA, xA, xA, xA, Ptr 0, Ptr 1, xA, xA, xA, xA, xA, xA, xA, xA, xA, xA, xA, xA, xA, xA, xA, xA, xA, xA, xA, xA, xA, xA, xA, xA, xA, xA, xA, xA, xA, xA, xA, xA, xA, xA, xA, xA, xA, xA, xA, xA, xA, xA, xA, HL s.holds, I .i64 s.holds.length, I .i64 i, xA, xA, xA, xA, xA, xA, xA, xA, xA, xA, xA, xA, xA, xA, xA, xA, xA, xA, xA, xA, .any])
        (fun i => [some (.box 61 [.row 2 (Li ++ outH (s.holds.take i)).length]), some (.box 35 [.row 3 (Qi ++ plcH (s.holds.take i)).length]), some (.row 118 2 (outv (Li ++ outH (s.holds.take i)))), some (.row 54 2 (plcv (Qi ++ plcH (s.holds.take i))))]) 0 [1, 2, 3, 4]
        (Nat.zero_le _) (by simp [Ptr, I, HL]) (by simp [outH, plcH]) (by simp) (by simp) (by simp) ?_
      intro i hi
      obtain ⟨Lj, hLj⟩ : ∃ Lj, Li ++ outH (s.holds.take i) = Lj := ⟨_, rfl⟩
      obtain ⟨Qj, hQj⟩ : ∃ Qj, Qi ++ plcH (s.holds.take i) = Qj := ⟨_, rfl⟩
      have hlL2 : Lj.length ≤ 40 := by rw [← hLj]; simp [outH]; omega
      have hlQ2 : Qj.length ≤ 40 := by rw [← hQj]; simp [plcH]; omega
      rw [hLj, hQj]
      simp [Ptr, I, HL]
      refine alt (fun hlt => ?_) (fun hlt => ?_)
      · have hln : i < s.holds.length := by omega
        obtain ⟨x, hc⟩ : ∃ x, s.holds[i]? = some x := ⟨s.holds[i], by simp [hln]⟩
        have hge : (holv s.holds)[i]'(by simp [hln]) = holF x := gE (holv_get hc)
        have hk := hhol x (List.mem_of_getElem? hc)
        have w1 := wS (i := i) (by omega)
        have hLn : Li ++ outH (s.holds.take (i + 1)) = Lj ++ [⟨x.am, allB x.keys⟩] := by rw [take_s hc, ← hLj]; simp [outH]
        have hQn : Qi ++ plcH (s.holds.take (i + 1)) = Qj ++ [(4, x.id)] := by rw [take_s hc, ← hQj]; simp [plcH]
        simp [hln, hge, holF]
        refine call0 (PAll_ok x.keys hk) (by simp [IL]) ?_
        rintro y H' ⟨rfl, rfl⟩
        refine ⟨.inl (by simp [CNv]), le_ok rfl, ?_⟩
        simp [CNv]
        refine ⟨⟨by omega, by omega⟩, ?_⟩
        try simp
        refine ⟨⟨by omega, by omega⟩, ?_⟩
        try simp [w1, -Int.natCast_add]
        have q1 := congrArg List.length hLn
        have q2 := congrArg List.length hQn
        simp only [List.length_append, List.length_singleton] at q1 q2
        have hol : outv Lj ++ [[FV.lit (Value.int IntKind.i64 x.am), FV.sl 35 (brav (allB x.keys))]] = outv (Lj ++ [⟨x.am, allB x.keys⟩]) := by simp [outv, outF, iF]
        have hpl : plcv Qj ++ [[FV.lit (Value.int IntKind.i64 4), FV.lit (Value.int IntKind.i64 x.id)]] = plcv (Qj ++ [(4, x.id)]) := by simp [plcv, plcF, iF]
        refine round (i + 1) [0, 1, 212, 324] (by omega) (by omega) (by simp [Ptr, I, HL]) ?_ (by simp) (by simp) (by simp)
        rw [hLn, hQn]
        simp [q1, q2, hol, hpl]
      have hil : i = s.holds.length := by omega
      subst hil
      rw [List.take_length] at hLj hQj
      clear hlt hi
      simp
      have tk1 : List.take Lj.length (outv Lj) = outv Lj := List.take_of_length_le (by simp)
      have tk2 : List.take Qj.length (plcv Qj) = plcv Qj := List.take_of_length_le (by simp)
      refine finW _ (weak_frz (o := 2) (ty := 118) (es := 2) (xs := outv Lj) rfl) ?_
      refine finW _ (weak_frz (o := 3) (ty := 54) (es := 2) (xs := plcv Qj) rfl) ?_
      refine fin [] (by decide) rfl rfl rfl ⟨rfl, ?_⟩
      have hL9 : outsB p s o lock = Lj := by rw [hvL, ← hLj, ← hLi, List.append_assoc]
      have hQ9 : plcB p s o = Qj := by rw [hvQ, ← hQj, ← hQi, List.append_assoc]
      rw [hL9, hQ9]
      simp [tk1, tk2]
end Go.Proofs.YtflcfdeanneoeaaGreatDoor
