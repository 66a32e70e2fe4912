import Derived.Test.YtflcfdeanneoeaaGreatDoorAll17
import Derived.Test.YtflcfdeanneoeaaGreatDoorAll11
import Derived.Test.YtflcfdeanneoeaaGreatDoorAll14
import Derived.Test.YtflcfdeanneoeaaGreatDoorAll9
import Derived.Test.YtflcfdeanneoeaaGreatDoorProg
import Derived.Test.YtflcfdeanneoeaaGreatDoorAll6
set_option maxHeartbeats 64000000
namespace Go.Proofs.YtflcfdeanneoeaaGreatDoor
open Go Go.EW
set_option linter.unusedSimpArgs false
set_option linter.unusedVariables false
@[simp] def ylrf : UL | _ => [xQ 0 2 (.box 63 (.t 0)), xQ 1 4 (.mov (.k xS))]
@[simp] def ylrg : UL | _ => [xQ 8 19 (.cnv .u64 (.t 18)), ⟨0, (some 11), none, (.call 126 []), [1, 2, 3, 5, 6, 7, 8]⟩, ⟨4, (some 15), none, (.call 127 [(.t 11), (.t 14)]), [5, 6, 7, 8]⟩, xO 9 20 (.call 127 [(.t 15), (.t 19)]), xM 10 5 20]
@[simp] def ylrh : UL | _ => xQ 1 12 (.fad 0 (.t 2)) :: xQ 2 13 (.ldc (.t 12)) :: xQ 3 14 (.cnv .u64 (.t 13)) :: xQ 5 16 (.fad 1 (.t 2)) :: xQ 6 17 (.ldc (.t 16)) :: xQ 7 18 (.len (.t 17)) :: hid ylrg
@[simp] def ylri : UL | _ => [xQ 0 21 (.fad 1 (.t 2)), xQ 1 22 (.ldc (.t 21)), xQ 2 23 (.len (.t 22)), xQ 3 24 (.mov (xK 0))]
@[simp] def ylrj : UL | _ => [xQ 0 25 (.bin .lss (.t 24) (.t 23))]
@[simp] def ylrk : UL | _ => [xQ 0 26 (.isl 35 (.t 22) (.t 24)), xQ 1 27 (.lda 35 (.t 26)), xQ 2 7 (.alloc 135 (zU8 ++ [xZ, xZ, xS])), xN 3 (.fz (.sto 35 (.t 7) (.t 27)))]
@[simp] def ylrl : UL | _ => [xQ 15 43 (.lda 35 (.t 7)), ⟨4, (some 32), none, (.call 128 [(.t 28), (.t 31)]), [5, 6, 7, 8, 10, 11, 12, 14, 15]⟩, ⟨9, (some 37), none, (.call 127 [(.t 32), (.t 36)]), [10, 11, 12, 14, 15]⟩, ⟨13, (some 41), none, (.call 127 [(.t 37), (.t 40)]), [14, 15]⟩, xO 16 44 (.clo (.t 42) [(.t 43)]), xO 17 45 (.call 129 [(.t 41), (.t 44)])]
@[simp] def ylrm : UL | _ => xQ 7 35 (.ldc (.t 34)) :: xQ 8 36 (.cnv .u64 (.t 35)) :: xQ 10 38 (.fad 33 (.t 7)) :: xQ 11 39 (.ldc (.t 38)) :: xQ 12 40 (.cnv .u64 (.t 39)) :: xM 14 42 1 :: hid ylrl
@[simp] def ylrn : UL | _ => xM 0 28 5 :: xQ 1 29 (.fad 0 (.t 7)) :: xQ 2 30 (.fad 0 (.t 29)) :: xQ 3 31 (.lda 32 (.t 30)) :: xQ 5 33 (.fad 0 (.t 7)) :: xQ 6 34 (.fad 32 (.t 33)) :: hid ylrm
@[simp] def ylro : UL | _ => [xQ 0 46 (.bin .add (.t 24) (xK 1)), xM 1 24 46]
@[simp] def ybrp : UB | _ => .seq (.block 1 (.seq (reg0 (hid ylrk) 4) (reg1 (hid ylrn) 18))) (reg0 (hid ylro) 2)
@[simp] def ybrq : UB | _ => .seq (reg0 (hid ylrj) 1) (.seq (.cond (.t 25) .skip (.exit 0)) (hid ybrp))
@[simp] def ylrr : UL | _ => [xO 6 53 (.call 130 [(.t 52)]), xM 7 8 53]
@[simp] def ylrs : UL | _ => xM 0 47 5 :: xQ 1 48 (.fad 2 (.t 2)) :: xQ 2 49 (.ldc (.t 48)) :: xQ 3 50 (.len (.t 49)) :: xQ 4 51 (.cnv .u64 (.t 50)) :: xO 5 52 (.call 127 [(.t 47), (.t 51)]) :: hid ylrr
@[simp] def ylrt : UL | _ => [xQ 0 54 (.fad 2 (.t 2)), xQ 1 55 (.ldc (.t 54)), xQ 2 56 (.len (.t 55)), xQ 3 57 (.mov (xK 0))]
@[simp] def ylru : UL | _ => [xQ 0 58 (.bin .lss (.t 57) (.t 56))]
@[simp] def ylrv : UL | _ => [xQ 0 59 (.isl 2 (.t 55) (.t 57)), xQ 1 60 (.lda 2 (.t 59)), xQ 2 10 (.alloc 118 [xZ, xS]), xN 3 (.fz (.sto 2 (.t 10) (.t 60)))]
@[simp] def ylrw : UL | _ => [⟨1, (some 62), none, (.call 126 []), [0, 2, 3, 4, 8, 9]⟩, ⟨5, (some 66), none, (.call 127 [(.t 62), (.t 65)]), [0, 8, 9]⟩, ⟨6, (some 67), none, (.call 130 [(.t 66)]), [0, 8, 9]⟩, ⟨7, (some 68), none, (.app 5 1 1 (.t 61) (.t 67)), [8, 9]⟩, xO 10 71 (.call 131 [(.t 68), (.t 70)]), xM 11 8 71]
@[simp] def ylrx : UL | _ => xM 0 61 8 :: xQ 2 63 (.fad 0 (.t 10)) :: xQ 3 64 (.ldc (.t 63)) :: xQ 4 65 (.cnv .u64 (.t 64)) :: xQ 8 69 (.fad 1 (.t 10)) :: xQ 9 70 (.lda 1 (.t 69)) :: hid ylrw
@[simp] def ylry : UL | _ => [xQ 0 72 (.bin .add (.t 57) (xK 1)), xM 1 57 72]
@[simp] def ybrz : UB | _ => .seq (.block 3 (.seq (reg0 (hid ylrv) 4) (reg1 (hid ylrx) 12))) (reg0 (hid ylry) 2)
@[simp] def ybs0 : UB | _ => .seq (reg0 (hid ylru) 1) (.seq (.cond (.t 58) .skip (.exit 2)) (hid ybrz))
@[simp] def yls1 : UL | _ => [xM 0 73 8, xM 1 4 73]
@[simp] def ybs2 : UB | _ => .seq (.seq (reg0 (hid ylrt) 4) (.block 2 (.loop (hid ybs0)))) (.seq (reg0 (hid yls1) 2) .ret)
@[simp] def ybs3 : UB | _ => .seq (.seq (reg0 (hid ylri) 4) (.block 0 (.loop (hid ybrq)))) (.seq (reg0 (hid ylrs) 8) (hid ybs2))
@[simp] def ybs4 : UB | _ => .seq (reg0 (hid ylrf) 2) (.seq (reg1 (hid ylrh) 11) (hid ybs3))
def c_TPut : EB × List QOp × Nat := ((hid ybs4), [(.mov (.t 4))], 74)
theorem k_TPut : cfun Tryz.prog 76 = some c_TPut := by kernel_rfl
@[simp] def yls5 : UL | _ => [xQ 0 1 (.box 63 (.t 0)), xQ 1 2 (.mov (.k xS))]
@[simp] def yls6 : UL | _ => [xQ 0 3 (.lda 3 (.t 1)), xO 1 4 (.call 76 [(.t 3), (.k (.func (.func 98) #[] #[]))]), xM 2 2 4]
@[simp] def ybs7 : UB | _ => .seq (reg0 (hid yls5) 2) (.seq (reg0 (hid yls6) 3) .ret)
def c_TEncode : EB × List QOp × Nat := ((hid ybs7), [(.mov (.t 2))], 5)
theorem k_TEncode : cfun Tryz.prog 54 = some c_TEncode := by kernel_rfl
@[simp] def yls8 : UL | _ => [xQ 0 1 (.box 135 (.t 0)), xQ 1 2 (.mov (.k xS))]
@[simp] def yls9 : UL | _ => [xQ 0 3 (.fad 34 (.t 1)), xQ 1 4 (.ldc (.t 3)), xM 2 2 4]
@[simp] def ybsa : UB | _ => .seq (reg0 (hid yls8) 2) (.seq (reg0 (hid yls9) 3) .ret)
def c_InShown : EB × List QOp × Nat := ((hid ybsa), [(.mov (.t 2))], 5)
theorem k_InShown : cfun Tryz.prog 98 = some c_InShown := by kernel_rfl
def inpB (x : Inp) : List UInt8 := x.tx ++ (uB x.n ++ (uB x.br ++ bytesB x.sec))
def oupB (o : Outp) : List UInt8 := uB o.am ++ cndB o.cs
def insB (l : List Inp) : List UInt8 := l.flatMap inpB
def ousB (l : List Outp) : List UInt8 := l.flatMap oupB
def hdB (t : Txn) : List UInt8 := uB t.lk ++ uB (t.ins.length : Int)
def mdB (t : Txn) : List UInt8 := hdB t ++ insB t.ins ++ uB (t.outs.length : Int)
def encT (t : Txn) : List UInt8 := mdB t ++ ousB t.outs
theorem insB_snoc (l : List Inp) (x : Inp) : insB (l ++ [x]) = insB l ++ inpB x := by simp [insB]
theorem ousB_snoc (l : List Outp) (x : Outp) : ousB (l ++ [x]) = ousB l ++ oupB x := by simp [ousB]
def INL (l : List Inp) : EV := .v (.c (.fz (.sl 35 (inpv l))))
def OUL (l : List Outp) : EV := .v (.c (.fz (.sl 2 (outv l))))
theorem InShown_body : bodyOK Tryz.prog 98 = true := by kernel_rfl
theorem InShown_ok (x : Inp) (h : x.ok) : ECalls Tryz.prog 98 [.v (.agg (inpC x))] [] fun y H' => H' = [] ∧ y = Bs x.sec := by
  obtain ⟨h1, _, _, h4⟩ := h
  have l0 := ic_len h1
  have e34 := idx_of (ic_34 h1) (by omega)
  refine ecalls k_InShown ?_
  simp [c_InShown, l0, e34]
  exact fin0
theorem drop35h (a b c : EC) : List.drop 35 (hc hz ++ [a, b, c]) = [] := by rw [List.drop_eq_nil_iff]; simp [hz]
theorem TPutF_ok (f : FuncId) (t : Txn) (ht : t.ok) (hbf : bodyOK Tryz.prog f = true) (hff : ∀ x ∈ t.ins, ECalls Tryz.prog f [.v (.agg (inpC x))] [] fun y H' => H' = [] ∧ y = Bs x.sec) (hsec : ∀ x ∈ t.ins, x.sec.length ≤ 10000000) (hs : (encT t).length ≤ 400000000) : ECalls Tryz.prog 76 [TXv t, .v (.c (.clo f []))] [] fun y H' => H' = [] ∧ y = Bs (encT t) := by
  obtain ⟨t1, t2, t3, t4, t5⟩ := id ht
  have hlen : (encT t).length = (uB t.lk).length + (uB (t.ins.length : Int)).length + (insB t.ins).length + (uB (t.outs.length : Int)).length + (ousB t.outs).length := by simp [encT, mdB, hdB]; try omega
  refine ecalls k_TPut ?_
  simp [c_TPut, TXv, txC, iC]
  refine call0 New_ok rfl ?_
  rintro y H' ⟨rfl, rfl⟩
  refine ⟨.inl rfl, le_ok rfl, ?_⟩
  simp [Ptr, WO, RO, wrap_u64n]
  refine callH [32, 33] (WUint_ok [] (u64n t.lk) (u64n_lt _) (by simp)) (by simp [Ptr, I]) (by simp [WO, RO]) (by simp) (by simp) (by simp) ?_
  rintro y H' ⟨rfl, rfl⟩
  refine ⟨.inl (by simp), le_ok rfl, ?_⟩
  simp only [uB_eq, List.nil_append]
  simp [WO, RO, Ptr, wrap_u64n]
  refine callH [32, 96] (WUint_ok (uB t.lk) (u64n (t.ins.length : Int)) (u64n_lt _) (by omega)) (by simp [Ptr, I]) (by simp [WO, RO]) (by simp) (by simp) (by simp) ?_
  rintro y H' ⟨rfl, rfl⟩
  refine ⟨.inl (by simp), le_ok rfl, ?_⟩
  obtain ⟨F, hF⟩ : ∃ F : Nat → List UInt8, F = fun i => hdB t ++ insB (t.ins.take i) := ⟨_, rfl⟩
  have hF0 : uB t.lk ++ uB (t.ins.length : Int) = F 0 := by rw [hF]; simp [insB, hdB]
  have hFl : ∀ i, (F i).length ≤ 400000000 := by
    intro i
    have hfl := flat_take inpB t.ins i
    rw [hF]; simp only [List.length_append, hdB]; unfold insB at *; omega
  simp only [uB_eq, hF0]
  simp [WO, RO, Ptr]
  refine eloop (α := Nat) (fun i => i ≤ t.ins.length) (fun i => t.ins.length - i)
    (fun i => [xA, .v (.c (.clo f [])), Ptr 0, xA, xA, Ptr 1, xA, xA, xA, xA, xA, xA, xA, xA, xA, xA, xA, xA, xA, xA, xA, xA, INL t.ins, I .i64 t.ins.length, I .i64 i, xA, xA, xA, xA, xA, xA, xA, xA, xA, xA, xA, xA, xA, xA, xA, xA, xA, xA, xA, xA, xA, xA, xA, xA, xA, xA, xA, xA, xA, xA, xA, xA, xA, xA, xA, xA, xA, xA, xA, xA, xA, xA, xA, xA, xA, xA, xA, xA, .any]) (fun i => [some (.box 63 (txC t)), some (WO 2 (F i)), some (RO (F i))]) 0 [0, 32, 176]
    (Nat.zero_le _) (by simp [Ptr, I, INL]) (by simp [WO, RO, txC, iC]) (by simp) (by simp) (by simp) ?_
  intro i hi
  have hX := hFl i
  simp [Ptr, I, INL, WO, RO, txC, iC]
  refine alt (fun hlt => ?_) (fun hlt => ?_)
  · have hln : i < t.ins.length := by omega
    obtain ⟨x, hcx⟩ : ∃ x, t.ins[i]? = some x := ⟨t.ins[i], by simp [hln]⟩
    have hge : (inpv t.ins)[i]'(by simpa using hln) = inpF x := gE (inpv_get hcx)
    have hx := t2 x (List.mem_of_getElem? hcx)
    obtain ⟨x1, x2, x3, x4⟩ := id hx
    have x5 := hsec x (List.mem_of_getElem? hcx)
    have l0 := ic_len x1
    have f0 := if_len x1
    have tk := ic_take x1
    have th := ic_hash x1
    have e32 := idx_of (ic_32 x1) (by omega)
    have e33 := idx_of (ic_33 x1) (by omega)
    have w1 := wS (i := i) (by omega)
    have hfs := flat_take_s inpB hcx
    have hbl : (inpB x).length = 32 + ((uB x.n).length + ((uB x.br).length + (bytesB x.sec).length)) := by simp [inpB, x1]
    have hXb : (F i).length + (inpB x).length ≤ 400000000 := by
      rw [hF]; simp only [List.length_append, hdB]; unfold insB at *; omega
    have hFs : F (i + 1) = F i ++ inpB x := by rw [hF]; simp [take_s hcx, insB_snoc]
    simp [hln, hge, inpF_fz, l0, f0, tk, th, e32, e33, wrap_u64n, drop35h, iC, WO, RO, Ptr]
    refine callH [1, 2] (WHash_ok (F i) x.tx (by omega) x1) (by simp [Ptr, Ag]) (by simp [WO, RO]) (by simp) (by simp) (by simp) ?_
    rintro y H' ⟨rfl, rfl⟩
    refine ⟨.inl (by simp), le_ok rfl, ?_⟩
    simp [hln, hge, inpF_fz, l0, f0, tk, th, e32, e33, wrap_u64n, drop35h, iC, WO, RO, Ptr]
    refine callH [1, 147] (WUint_ok (F i ++ x.tx) (u64n x.n) (u64n_lt _) (by simp; omega)) (by simp [Ptr, I]) (by simp [WO, RO]) (by simp) (by simp) (by simp) ?_
    rintro y H' ⟨rfl, rfl⟩
    refine ⟨.inl (by simp), le_ok rfl, ?_⟩
    simp only [uB_eq]
    simp [hln, hge, inpF_fz, l0, f0, tk, th, e32, e33, wrap_u64n, drop35h, iC, WO, RO, Ptr]
    refine callH [1, 227] (WUint_ok (F i ++ x.tx ++ uB x.n) (u64n x.br) (u64n_lt _) (by simp; omega)) (by simp [Ptr, I]) (by simp [WO, RO]) (by simp) (by simp) (by simp) ?_
    rintro y H' ⟨rfl, rfl⟩
    refine ⟨.inl (by simp), le_ok rfl, ?_⟩
    simp only [uB_eq]
    simp [hln, hge, inpF_fz, l0, f0, tk, th, e32, e33, wrap_u64n, drop35h, iC, WO, RO, Ptr]
    refine ⟨hbf, ?_⟩
    refine call0 (hff x (List.mem_of_getElem? hcx)) (by simp [hln, hge, inpF_fz, l0, f0, tk, th, e32, e33, wrap_u64n, drop35h, iC, WO, RO, Ptr]) ?_
    rintro y H' ⟨rfl, rfl⟩
    refine ⟨.inl (by simp [Bs]), le_ok rfl, ?_⟩
    simp [hln, hge, inpF_fz, l0, f0, tk, th, e32, e33, wrap_u64n, drop35h, iC, WO, RO, Ptr, Bs]
    refine callH [1, 291] (WBytes_ok (F i ++ x.tx ++ uB x.n ++ uB x.br) x.sec (by simp; omega) (by omega)) (by simp [Ptr, Bs]) (by simp [WO, RO]) (by simp) (by simp) (by simp) ?_
    rintro y H' ⟨rfl, rfl⟩
    refine ⟨.inl (by simp), le_ok rfl, ?_⟩
    have hGe : F i ++ x.tx ++ uB x.n ++ uB x.br ++ bytesB x.sec = F (i + 1) := by rw [hFs]; simp [inpB]
    simp only [hGe]
    simp [WO, RO, Ptr, w1, -Int.natCast_add]
    exact round (i + 1) [0, 1, 355] (by omega) (by omega) (by simp [Ptr, I, INL]) (by simp [WO, RO, txC, iC]) (by simp) (by simp) (by simp)
  have hil : i = t.ins.length := by omega
  subst hil
  have hFe : F t.ins.length = hdB t ++ insB t.ins := by rw [hF]; simp
  simp [wrap_u64n]
  refine callH [1, 2] (WUint_ok (F t.ins.length) (u64n (t.outs.length : Int)) (u64n_lt _) (by omega)) (by simp [Ptr, I]) (by simp [WO, RO]) (by simp) (by simp) (by simp) ?_
  rintro y H' ⟨rfl, rfl⟩
  refine ⟨.inl (by simp), le_ok rfl, ?_⟩
  obtain ⟨K, hK⟩ : ∃ K : Nat → List UInt8, K = fun i => mdB t ++ ousB (t.outs.take i) := ⟨_, rfl⟩
  have hK0 : F t.ins.length ++ uB (t.outs.length : Int) = K 0 := by rw [hK, hFe]; simp [ousB, mdB]
  have hKl : ∀ i, (K i).length ≤ 400000000 := by
    intro i
    have hfl := flat_take oupB t.outs i
    rw [hK]; simp only [List.length_append, hdB, mdB]; unfold ousB at *; omega
  simp only [uB_eq, hK0]
  simp [WO, RO, Ptr]
  have hK00 := hKl 0
  refine callH [1, 99] (WDone_ok (K 0) (by omega)) (by simp [Ptr]) (by simp [WO, RO]) (by simp) (by simp) (by simp) ?_
  rintro y H' ⟨rfl, rfl⟩
  refine ⟨.inl (by simp), le_ok rfl, ?_⟩
  simp [WO, RO, Ptr, R]
  refine eloop (α := Nat) (fun i => i ≤ t.outs.length) (fun i => t.outs.length - i)
    (fun i => [xA, xA, xA, xA, xA, xA, xA, xA, R 0 (K i), xA, xA, xA, xA, xA, xA, xA, xA, xA, xA, xA, xA, xA, xA, xA, xA, xA, xA, xA, xA, xA, xA, xA, xA, xA, xA, xA, xA, xA, xA, xA, xA, xA, xA, xA, xA, xA, xA, xA, xA, xA, xA, xA, xA, xA, xA, OUL t.outs, I .i64 t.outs.length, I .i64 i, xA, xA, xA, xA, xA, xA, xA, xA, xA, xA, xA, xA, xA, xA, xA, .any]) (fun i => [some (RO (K i))]) 0 [115]
    (Nat.zero_le _) (by simp [R, I, OUL]) (by simp [RO]) (by simp) (by simp) (by simp) ?_
  intro i hi
  have hX := hKl i
  simp [R, I, OUL, RO]
  refine alt (fun hlt => ?_) (fun hlt => ?_)
  · have hln : i < t.outs.length := by omega
    obtain ⟨x, hcx⟩ : ∃ x, t.outs[i]? = some x := ⟨t.outs[i], by simp [hln]⟩
    have hge : (outv t.outs)[i]'(by simpa using hln) = outF x := gE (outv_get hcx)
    obtain ⟨x1, x2, x3⟩ := t3 x (List.mem_of_getElem? hcx)
    have w1 := wS (i := i) (by omega)
    have hfs := flat_take_s oupB hcx
    have hbl : (oupB x).length = (uB x.am).length + (cndB x.cs).length := by simp [oupB]
    have hXb : (K i).length + (oupB x).length ≤ 400000000 := by
      rw [hK]; simp only [List.length_append, hdB, mdB]; unfold ousB at *; omega
    have hKs : K (i + 1) = K i ++ oupB x := by rw [hK]; simp [take_s hcx, ousB_snoc]
    simp [hln, hge, outF, iF]
    refine call0 New_ok rfl ?_
    rintro y H' ⟨rfl, rfl⟩
    refine ⟨.inl rfl, le_ok rfl, ?_⟩
    simp [Ptr, WO, RO, wrap_u64n]
    refine callH [97, 98] (WUint_ok [] (u64n x.am) (u64n_lt _) (by simp)) (by simp [Ptr, I]) (by simp [WO, RO]) (by simp) (by simp) (by simp) ?_
    rintro y H' ⟨rfl, rfl⟩
    refine ⟨.inl (by simp), le_ok rfl, ?_⟩
    simp only [uB_eq, List.nil_append]
    simp [Ptr, WO, RO, wrap_u64n]
    have hua := uB_len x.am
    refine callH [97, 161] (WDone_ok (uB x.am) (by omega)) (by simp [Ptr]) (by simp [WO, RO]) (by simp) (by simp) (by simp) ?_
    rintro y H' ⟨rfl, rfl⟩
    refine ⟨.inl (by simp), le_ok rfl, ?_⟩
    simp [WO, RO, Ptr, R, bsv_app]
    refine ⟨⟨by omega, by omega⟩, ?_⟩
    refine call0 (CPut_ok (K i ++ uB x.am) x.cs x2 x3 (by simp; omega)) (by simp [CNv, Bs, List.take_of_length_le]) ?_
    rintro y H' ⟨rfl, rfl⟩
    refine ⟨.inr ⟨rfl, by simp [RO, bsv, cb]⟩, le_ok rfl, ?_⟩
    have hGe : K i ++ uB x.am ++ cndB x.cs = K (i + 1) := by rw [hKs]; simp [oupB]
    simp only [hGe]
    simp [R, RO, w1, -Int.natCast_add]
    exact round (i + 1) [241] (by omega) (by omega) (by simp [R, I, OUL]) (by simp [RO]) (by simp) (by simp) (by simp)
  have hil : i = t.outs.length := by omega
  subst hil
  have hKe : K t.outs.length = encT t := by rw [hK]; simp [encT]
  simp
  refine finW _ (weak_frz (o := 0) (ty := 5) (es := 1) (xs := bsv (K t.outs.length)) rfl) ?_
  exact fin [] (by decide) rfl rfl rfl ⟨rfl, by simp [Bs, hKe, List.take_of_length_le]⟩
theorem TPut_ok (t : Txn) (ht : t.ok) (hsec : ∀ x ∈ t.ins, x.sec.length ≤ 10000000) (hs : (encT t).length ≤ 400000000) : ECalls Tryz.prog 76 [TXv t, .v (.c (.clo 98 []))] [] fun y H' => H' = [] ∧ y = Bs (encT t) :=
  TPutF_ok _ t ht InShown_body (fun x hx => InShown_ok x (ht.2.1 x hx)) hsec hs
theorem TEncode_ok (t : Txn) (ht : t.ok) (hsec : ∀ x ∈ t.ins, x.sec.length ≤ 10000000) (hs : (encT t).length ≤ 400000000) : ECalls Tryz.prog 54 [TXv t] [] fun y H' => H' = [] ∧ y = Bs (encT t) := by
  refine ecalls k_TEncode ?_
  simp [c_TEncode, TXv, txC, iC]
  refine call0 (TPut_ok t ht hsec hs) (by simp [TXv, txC, iC]) ?_
  rintro y H' ⟨rfl, rfl⟩
  refine ⟨.inl (by simp [Bs]), le_ok rfl, ?_⟩
  simp [Bs]
  exact fin0
@[simp] def ylsb : UL | _ => [xQ 0 3 (.box 145 (.t 1)), xQ 1 4 (.mov (.k xS))]
@[simp] def ylsc : UL | _ => [xQ 0 5 (.mov (.k xS))]
@[simp] def ylsd : UL | _ => [⟨2, (some 11), none, (.app 5 1 1 (.t 9) (.t 10)), [3, 4, 5, 6]⟩, xO 7 16 (.call 147 [(.t 11), (.t 15)]), xM 8 5 16]
@[simp] def ylse : UL | _ => xM 0 9 5 :: xM 1 10 0 :: xQ 3 12 (.fad 0 (.t 3)) :: xQ 4 13 (.ldc (.t 12)) :: xQ 5 14 (.len (.t 13)) :: xQ 6 15 (.cnv .u64 (.t 14)) :: hid ylsd
@[simp] def ylsf : UL | _ => [xQ 0 6 (.mov (xK 0))]
@[simp] def ylsg : UL | _ => [xM 0 17 6, xQ 1 18 (.fad 0 (.t 3)), xQ 2 19 (.ldc (.t 18)), xQ 3 20 (.len (.t 19)), xQ 4 21 (.bin .lss (.t 17) (.t 20))]
@[simp] def ylsh : UL | _ => [xN 6 (.fz (.sto 35 (.t 7) (.t 28)))]
@[simp] def ylsi : UL | _ => xQ 0 24 (.fad 0 (.t 3)) :: xQ 1 25 (.ldc (.t 24)) :: xM 2 26 6 :: xQ 3 27 (.isl 35 (.t 25) (.t 26)) :: xQ 4 28 (.lda 35 (.t 27)) :: xQ 5 7 (.alloc 150 (([xS] : List Value) ++ zU8 ++ [xZ, xZ])) :: hid ylsh
@[simp] def ylsj : UL | _ => [xM 6 5 34]
@[simp] def ylsk : UL | _ => xM 0 29 5 :: xQ 1 30 (.fad 0 (.t 7)) :: xQ 2 31 (.ldc (.t 30)) :: xQ 3 32 (.len (.t 31)) :: xQ 4 33 (.cnv .u64 (.t 32)) :: xO 5 34 (.call 147 [(.t 29), (.t 33)]) :: hid ylsj
@[simp] def ylsl : UL | _ => [xQ 0 8 (.mov (xK 0))]
@[simp] def ylsm : UL | _ => [xM 0 35 8, xQ 1 36 (.fad 0 (.t 7)), xQ 2 37 (.ldc (.t 36)), xQ 3 38 (.len (.t 37)), xQ 4 39 (.bin .lss (.t 35) (.t 38))]
@[simp] def ylsn : UL | _ => [xQ 6 48 (.cnv .u64 (.t 47)), xO 7 49 (.call 147 [(.t 42), (.t 48)]), xM 8 5 49]
@[simp] def ylso : UL | _ => xM 0 42 5 :: xQ 1 43 (.fad 0 (.t 7)) :: xQ 2 44 (.ldc (.t 43)) :: xM 3 45 8 :: xQ 4 46 (.isl 1 (.t 44) (.t 45)) :: xQ 5 47 (.ldc (.t 46)) :: hid ylsn
@[simp] def ylsp : UL | _ => [xM 0 40 8, xQ 1 41 (.bin .add (.t 40) (xK 1)), xM 2 8 41]
@[simp] def ybsq : UB | _ => .seq (.seq (reg0 (hid ylsm) 5) (.cond (.t 39) .skip (.exit 2))) (.seq (.block 3 (reg0 (hid ylso) 9)) (reg0 (hid ylsp) 3))
@[simp] def ylsr : UL | _ => [xM 12 5 61]
@[simp] def ylss : UL | _ => xQ 8 58 (.fad 34 (.t 7)) :: xQ 9 59 (.ldc (.t 58)) :: xQ 10 60 (.cnv .u64 (.t 59)) :: ⟨3, (some 53), none, (.call 148 [(.t 50), (.t 52)]), [4, 5, 6, 8, 9, 10]⟩ :: ⟨7, (some 57), none, (.call 147 [(.t 53), (.t 56)]), [8, 9, 10]⟩ :: xO 11 61 (.call 147 [(.t 57), (.t 60)]) :: hid ylsr
@[simp] def ylst : UL | _ => xM 0 50 5 :: xQ 1 51 (.fad 1 (.t 7)) :: xQ 2 52 (.lda 32 (.t 51)) :: xQ 4 54 (.fad 33 (.t 7)) :: xQ 5 55 (.ldc (.t 54)) :: xQ 6 56 (.cnv .u64 (.t 55)) :: hid ylss
@[simp] def ybsu : UB | _ => .seq (.seq (reg0 (hid ylsl) 1) (.block 2 (.loop (hid ybsq)))) (reg1 (hid ylst) 13)
@[simp] def ybsv : UB | _ => .seq (reg0 (hid ylsi) 7) (.seq (reg0 (hid ylsk) 7) (hid ybsu))
@[simp] def ylsw : UL | _ => [xM 0 22 6, xQ 1 23 (.bin .add (.t 22) (xK 1)), xM 2 6 23]
@[simp] def ybsx : UB | _ => .seq (.seq (reg0 (hid ylsg) 5) (.cond (.t 21) .skip (.exit 0))) (.seq (.block 1 (hid ybsv)) (reg0 (hid ylsw) 3))
@[simp] def ylsy : UL | _ => [xM 0 62 5, xM 1 4 62]
@[simp] def ybsz : UB | _ => .seq (.seq (reg0 (hid ylsf) 1) (.block 0 (.loop (hid ybsx)))) (.seq (reg0 (hid ylsy) 2) .ret)
@[simp] def ybt0 : UB | _ => .seq (reg0 (hid ylsc) 1) (.seq (reg1 (hid ylse) 9) (hid ybsz))
@[simp] def ybt1 : UB | _ => .seq (reg0 (hid ylsb) 2) (hid ybt0)
def c_RCPut : EB × List QOp × Nat := ((hid ybt1), [(.mov (.t 4))], 63)
theorem k_RCPut : cfun Tryz.prog 150 = some c_RCPut := by kernel_rfl
@[simp] def ylt2 : UL | _ => [xQ 0 2 (.box 69 (.t 0)), xQ 1 4 (.mov (.k xS))]
@[simp] def ylt3 : UL | _ => [xQ 7 16 (.cnv .u64 (.t 15)), ⟨3, (some 12), none, (.call 147 [(.k xS), (.t 11)]), [4, 5, 6, 7]⟩, xO 8 17 (.call 147 [(.t 12), (.t 16)]), xM 9 5 17]
@[simp] def ylt4 : UL | _ => xQ 0 9 (.fad 0 (.t 2)) :: xQ 1 10 (.ldc (.t 9)) :: xQ 2 11 (.cnv .u64 (.t 10)) :: xQ 4 13 (.fad 1 (.t 2)) :: xQ 5 14 (.ldc (.t 13)) :: xQ 6 15 (.len (.t 14)) :: hid ylt3
@[simp] def ylt5 : UL | _ => [xQ 0 6 (.mov (xK 0))]
@[simp] def ylt6 : UL | _ => [xM 0 18 6, xQ 1 19 (.fad 1 (.t 2)), xQ 2 20 (.ldc (.t 19)), xQ 3 21 (.len (.t 20)), xQ 4 22 (.bin .lss (.t 18) (.t 21))]
@[simp] def ylt7 : UL | _ => [xN 6 (.fz (.sto 35 (.t 7) (.t 29)))]
@[simp] def ylt8 : UL | _ => xQ 0 25 (.fad 1 (.t 2)) :: xQ 1 26 (.ldc (.t 25)) :: xM 2 27 6 :: xQ 3 28 (.isl 35 (.t 26) (.t 27)) :: xQ 4 29 (.lda 35 (.t 28)) :: xQ 5 7 (.alloc 83 (zU8 ++ [xZ, xZ, xS])) :: hid ylt7
@[simp] def ylt9 : UL | _ => [⟨9, (some 39), none, (.call 147 [(.t 34), (.t 38)]), [10, 11, 12]⟩, xO 13 43 (.call 147 [(.t 39), (.t 42)]), xM 14 5 43]
@[simp] def ylta : UL | _ => xQ 7 37 (.ldc (.t 36)) :: xQ 8 38 (.cnv .u64 (.t 37)) :: xQ 10 40 (.fad 33 (.t 7)) :: xQ 11 41 (.ldc (.t 40)) :: xQ 12 42 (.cnv .u64 (.t 41)) :: ⟨4, (some 34), none, (.call 148 [(.t 30), (.t 33)]), [5, 6, 7, 8, 10, 11, 12]⟩ :: hid ylt9
@[simp] def yltb : UL | _ => xM 0 30 5 :: xQ 1 31 (.fad 0 (.t 7)) :: xQ 2 32 (.fad 0 (.t 31)) :: xQ 3 33 (.lda 32 (.t 32)) :: xQ 5 35 (.fad 0 (.t 7)) :: xQ 6 36 (.fad 32 (.t 35)) :: hid ylta
@[simp] def yltc : UL | _ => [xM 0 44 1]
@[simp] def yltd : UL | _ => [xM 0 45 5, xQ 1 46 (.fad 34 (.t 7)), xQ 2 47 (.ldc (.t 46)), xO 3 48 (.call 149 [(.t 45), (.t 47)]), xM 4 5 48]
@[simp] def ylte : UL | _ => [xM 0 49 5, xO 1 50 (.call 149 [(.t 49), (.k xS)]), xM 2 5 50]
@[simp] def ybtf : UB | _ => .seq (reg0 (hid yltc) 1) (.cond (.t 44) (reg0 (hid yltd) 5) (reg0 (hid ylte) 3))
@[simp] def ybtg : UB | _ => .seq (reg0 (hid ylt8) 7) (.seq (reg1 (hid yltb) 15) (hid ybtf))
@[simp] def ylth : UL | _ => [xM 0 23 6, xQ 1 24 (.bin .add (.t 23) (xK 1)), xM 2 6 24]
@[simp] def ybti : UB | _ => .seq (.seq (reg0 (hid ylt6) 5) (.cond (.t 22) .skip (.exit 0))) (.seq (.block 1 (hid ybtg)) (reg0 (hid ylth) 3))
@[simp] def yltj : UL | _ => [xM 6 5 56]
@[simp] def yltk : UL | _ => xM 0 51 5 :: xQ 1 52 (.fad 2 (.t 2)) :: xQ 2 53 (.ldc (.t 52)) :: xQ 3 54 (.len (.t 53)) :: xQ 4 55 (.cnv .u64 (.t 54)) :: xO 5 56 (.call 147 [(.t 51), (.t 55)]) :: hid yltj
@[simp] def yltl : UL | _ => [xQ 0 8 (.mov (xK 0))]
@[simp] def yltm : UL | _ => [xM 0 57 8, xQ 1 58 (.fad 2 (.t 2)), xQ 2 59 (.ldc (.t 58)), xQ 3 60 (.len (.t 59)), xQ 4 61 (.bin .lss (.t 57) (.t 60))]
@[simp] def yltn : UL | _ => [xQ 13 77 (.fad 1 (.t 76)), xQ 14 78 (.lda 1 (.t 77)), ⟨8, (some 72), none, (.call 147 [(.t 64), (.t 71)]), [9, 10, 11, 12, 13, 14]⟩, xO 15 79 (.call 150 [(.t 72), (.t 78)]), xM 16 5 79]
@[simp] def ylto : UL | _ => xQ 6 70 (.ldc (.t 69)) :: xQ 7 71 (.cnv .u64 (.t 70)) :: xQ 9 73 (.fad 2 (.t 2)) :: xQ 10 74 (.ldc (.t 73)) :: xM 11 75 8 :: xQ 12 76 (.isl 2 (.t 74) (.t 75)) :: hid yltn
@[simp] def yltp : UL | _ => xM 0 64 5 :: xQ 1 65 (.fad 2 (.t 2)) :: xQ 2 66 (.ldc (.t 65)) :: xM 3 67 8 :: xQ 4 68 (.isl 2 (.t 66) (.t 67)) :: xQ 5 69 (.fad 0 (.t 68)) :: hid ylto
@[simp] def yltq : UL | _ => [xM 0 62 8, xQ 1 63 (.bin .add (.t 62) (xK 1)), xM 2 8 63]
@[simp] def ybtr : UB | _ => .seq (.seq (reg0 (hid yltm) 5) (.cond (.t 61) .skip (.exit 2))) (.seq (.block 3 (reg1 (hid yltp) 17)) (reg0 (hid yltq) 3))
@[simp] def ylts : UL | _ => [xM 0 80 5, xM 1 4 80]
@[simp] def ybtt : UB | _ => .seq (.seq (reg0 (hid yltl) 1) (.block 2 (.loop (hid ybtr)))) (.seq (reg0 (hid ylts) 2) .ret)
@[simp] def ybtu : UB | _ => .seq (.seq (reg0 (hid ylt5) 1) (.block 0 (.loop (hid ybti)))) (.seq (reg0 (hid yltk) 7) (hid ybtt))
@[simp] def ybtv : UB | _ => .seq (reg0 (hid ylt2) 2) (.seq (reg1 (hid ylt4) 10) (hid ybtu))
def c_RTPut : EB × List QOp × Nat := ((hid ybtv), [(.mov (.t 4))], 81)
theorem k_RTPut : cfun Tryz.prog 99 = some c_RTPut := by kernel_rfl
@[simp] def yltw : UL | _ => [xQ 0 1 (.box 69 (.t 0)), xQ 1 2 (.mov (.k xS))]
@[simp] def yltx : UL | _ => [xQ 0 3 (.lda 3 (.t 1)), xO 1 4 (.call 99 [(.t 3), (.k (.bool true))]), xM 2 2 4]
@[simp] def ybty : UB | _ => .seq (reg0 (hid yltw) 2) (.seq (reg0 (hid yltx) 3) .ret)
def c_RTEncode : EB × List QOp × Nat := ((hid ybty), [(.mov (.t 2))], 5)
theorem k_RTEncode : cfun Tryz.prog 55 = some c_RTEncode := by kernel_rfl
theorem RCPut_ok (pre : List UInt8) (l : List Bra) (hl : ∀ b ∈ l, b.ok) (hn : l.length ≤ 100000000) (hs : pre.length + (cndB l).length ≤ 400000000) : ECalls Tryz.prog 150 [Bs pre, CNv l] [] fun y H' => H' = [some (RO (pre ++ cndB l))] ∧ y = R 0 (pre ++ cndB l) := by
  have hc0 : (cndB l).length = (uB (l.length : Int)).length + (brsB l).length := by simp [cndB]
  obtain ⟨F, hF⟩ : ∃ F : Nat → List UInt8, F = fun i => pre ++ uB (l.length : Int) ++ brsB (l.take i) := ⟨_, rfl⟩
  have hF0 : pre ++ uB (l.length : Int) = F 0 := by rw [hF]; simp [brsB]
  have hFl : ∀ i, (F i).length ≤ 400000000 := by
    intro i
    have hfl := flat_take braB l i
    rw [hF]; simp only [List.length_append]; unfold brsB at *; omega
  refine ecalls k_RCPut ?_
  simp [c_RCPut, CNv, Bs]
  refine ⟨⟨by omega, by omega⟩, ?_⟩
  simp only [wrap_u64n]
  refine call0 (RUint_ok pre (u64n (l.length : Int)) (u64n_lt _) (by omega)) (by simp [I, Bs, List.take_of_length_le]) ?_
  rintro y H' ⟨rfl, rfl⟩
  refine ⟨.inr ⟨rfl, by simp [RO, bsv, cb]⟩, le_ok rfl, ?_⟩
  simp only [uB_eq, hF0]
  simp [R, RO]
  refine eloop (α := Nat) (fun i => i ≤ l.length) (fun i => l.length - i)
    (fun i => [xA, xA, xA, Ptr 0, xA, R 1 (F i), I .i64 i, xA, xA, xA, xA, xA, xA, xA, xA, xA, xA, xA, xA, xA, xA, xA, xA, xA, xA, xA, xA, xA, xA, xA, xA, xA, xA, xA, xA, xA, xA, xA, xA, xA, xA, xA, xA, xA, xA, xA, xA, xA, xA, xA, xA, xA, xA, xA, xA, xA, xA, xA, xA, xA, xA, xA, .any]) (fun i => [some (.box 145 [.fz (.sl 35 (brav l))]), some (RO (F i))]) 0 [0, 160]
    (Nat.zero_le _) (by simp [Ptr, I, R]) (by simp [RO]) (by simp) (by simp) (by simp) ?_
  intro i hi
  have hX := hFl i
  simp [Ptr, I, R, RO]
  refine alt (fun hlt => ?_) (fun hlt => ?_)
  · have hln : i < l.length := by omega
    obtain ⟨b, hcx⟩ : ∃ b, l[i]? = some b := ⟨l[i], by simp [hln]⟩
    have hge : (brav l)[i]'(by simpa using hln) = braF b := gE (brav_get hcx)
    have hb := hl b (List.mem_of_getElem? hcx)
    obtain ⟨b1, b2, b3, b4, b5⟩ := id hb
    have l0 := bc_len b2
    have f0 := bf_len b2
    have tk := bc_take b2
    have lk : List.take 32 (braC b).tail = hc b.lock := by have := bc_lock b2; simpa using this
    have e0 := idx_of (bc_0 b) (by omega)
    have e33 := idx_of (bc_33 b2) (by omega)
    have e34 := idx_of (bc_34 b2) (by omega)
    have w1 := wS (i := i) (by omega)
    have hfs := flat_take_s braB hcx
    have hbl : (braB b).length = (uB (b.keys.length : Int)).length + ((usB b.keys).length + (32 + ((uB b.af).length + (uB b.ol).length))) := by simp [braB, b2]
    have hXb : (F i).length + (braB b).length ≤ 400000000 := by
      rw [hF]; simp only [List.length_append]; unfold brsB at *; omega
    have hFs : F (i + 1) = F i ++ braB b := by rw [hF]; simp [take_s hcx, brsB_snoc]
    simp [hln, hge, braF_fz, l0, f0, tk, lk, e0, e33, e34, wrap_u64n, drop34z, iC, RO, R, Ptr]
    refine call0 (RUint_ok (F i) (u64n (b.keys.length : Int)) (u64n_lt _) (by omega)) (by simp [I, Bs, List.take_of_length_le]) ?_
    rintro y H' ⟨rfl, rfl⟩
    refine ⟨.inr ⟨rfl, by simp [RO, bsv, cb]⟩, le_ok rfl, ?_⟩
    obtain ⟨G, hG⟩ : ∃ G : Nat → List UInt8, G = fun j => F i ++ uB (b.keys.length : Int) ++ usB (b.keys.take j) := ⟨_, rfl⟩
    have hG0 : F i ++ uB (b.keys.length : Int) = G 0 := by rw [hG]; simp [usB]
    have hGl : ∀ j, (G j).length + 32 + (uB b.af).length + (uB b.ol).length ≤ 400000000 := by
      intro j
      have hfk := flat_take uB b.keys j
      rw [hG]; simp only [List.length_append]; unfold usB at *; omega
    simp only [uB_eq, hG0]
    simp [hln, hge, braF_fz, l0, f0, tk, lk, e0, e33, e34, wrap_u64n, drop34z, iC, RO, R, Ptr]
    refine eloop (α := Nat) (fun j => j ≤ b.keys.length) (fun j => b.keys.length - j)
      (fun j => [xA, xA, xA, Ptr 0, xA, R 1 (G j), I .i64 i, Ptr 2, I .i64 j, xA, xA, xA, xA, xA, xA, xA, xA, xA, xA, xA, xA, xA, xA, xA, xA, xA, xA, xA, xA, xA, xA, xA, xA, xA, xA, xA, xA, xA, xA, xA, xA, xA, xA, xA, xA, xA, xA, xA, xA, xA, xA, xA, xA, xA, xA, xA, xA, xA, xA, xA, xA, xA, .any])
      (fun j => [some (.box 145 [.fz (.sl 35 (brav l))]), some (RO (G j)), some (.box 150 (braC b))]) 0 [0, 274, 162]
      (Nat.zero_le _) (by simp [Ptr, I, R]) (by simp [RO]) (by simp) (by simp) (by simp) ?_
    intro j hj
    have hY := hGl j
    simp [Ptr, I, R, RO, l0, e0]
    refine alt (fun hlt2 => ?_) (fun hlt2 => ?_)
    · have hjn : j < b.keys.length := by omega
      obtain ⟨k, hc2⟩ : ∃ k, b.keys[j]? = some k := ⟨b.keys[j], by simp [hjn]⟩
      have hcb2 := intv_get hc2
      have w3 : IntKind.i64.wrap ((j : Int) + 1) = ((j + 1 : Nat) : Int) := wrap_i64 (by omega) (by omega)
      have hGs : G (j + 1) = G j ++ uB k := by rw [hG]; simp [take_s hc2, usB_snoc]
      simp [hcb2, hln, hge, braF_fz, l0, f0, tk, lk, e0, e33, e34, wrap_u64n, drop34z, iC, RO, R, Ptr]
      refine call0 (RUint_ok (G j) (u64n k) (u64n_lt _) (by omega)) (by simp [I, Bs, List.take_of_length_le]) ?_
      rintro y H' ⟨rfl, rfl⟩
      refine ⟨.inr ⟨rfl, by simp [RO, bsv, cb]⟩, le_ok rfl, ?_⟩
      simp only [uB_eq, ← hGs]
      simp [R, RO, w3, -Int.natCast_add]
      exact round (j + 1) [0, 195, 2] (by omega) (by omega) (by simp [Ptr, I, R]) (by simp [RO]) (by simp) (by simp) (by simp)
    have hjl : j = b.keys.length := by omega
    subst hjl
    simp [hln, hge, braF_fz, l0, f0, tk, lk, e0, e33, e34, wrap_u64n, drop34z, iC, RO, R, Ptr]
    refine call0 (RHash_ok (G b.keys.length) b.lock (by omega) b2) (by simp [Ag, Bs, List.take_of_length_le, lk]) ?_
    rintro y H' ⟨rfl, rfl⟩
    refine ⟨.inr ⟨rfl, by simp [RO, bsv, cb]⟩, le_ok rfl, ?_⟩
    simp [hln, hge, braF_fz, l0, f0, tk, lk, e0, e33, e34, wrap_u64n, drop34z, iC, RO, R, Ptr]
    refine call0 (RUint_ok (G b.keys.length ++ b.lock) (u64n b.af) (u64n_lt _) (by simp; omega)) (by simp [I, Bs, List.take_of_length_le]) ?_
    rintro y H' ⟨rfl, rfl⟩
    refine ⟨.inr ⟨rfl, by simp [RO, bsv, cb]⟩, le_ok rfl, ?_⟩
    simp only [uB_eq]
    simp [hln, hge, braF_fz, l0, f0, tk, lk, e0, e33, e34, wrap_u64n, drop34z, iC, RO, R, Ptr]
    refine call0 (RUint_ok (G b.keys.length ++ b.lock ++ uB b.af) (u64n b.ol) (u64n_lt _) (by simp; omega)) (by simp [I, Bs, List.take_of_length_le]) ?_
    rintro y H' ⟨rfl, rfl⟩
    refine ⟨.inr ⟨rfl, by simp [RO, bsv, cb]⟩, le_ok rfl, ?_⟩
    have hGe : G b.keys.length ++ b.lock ++ uB b.af ++ uB b.ol = F (i + 1) := by rw [hFs, hG]; simp [braB]
    simp only [uB_eq, hGe]
    simp [R, RO, Ptr, w1, -Int.natCast_add]
    exact round (i + 1) [0, 259] (by omega) (by omega) (by simp [Ptr, I, R]) (by simp [RO]) (by simp) (by simp) (by simp)
  have hil : i = l.length := by omega
  subst hil
  have hXc : pre ++ cndB l = F l.length := by rw [hF]; simp [cndB]
  simp
  exact fin [1] (by decide) rfl rfl rfl ⟨by simp [hXc, RO], by simp [← hXc, R]⟩
theorem ecalls_nilC {P : Program} {f : FuncId} {e : Nat} {x : EV} {rest : List EV} {H : List EO} {post : EV → List (Option EO) → Prop} (h : ECalls P f (x :: .v (.c (.fz (.sl e []))) :: rest) H post) :
    ECalls P f (x :: .v (.c (.fz (.lit (.slice none 0 0)))) :: rest) H post := by
  intro ρ Φ w vals r' ha
  refine h ρ Φ w vals r' ?_
  obtain ⟨u0, us0, rfl, h0, ha⟩ := ha.cons_left
  obtain ⟨u, us, rfl, h1, h2⟩ := ha.cons_left
  have h1' : VR ⟨fun o => o < H.length, ρ, Φ, w⟩ (.fz (.lit (.slice none 0 0))) u := h1
  exact All2.cons h0 (All2.cons (nl_vr h1') h2)
theorem RTPutF_ok (sb : Bool) (t : Txn) (ht : t.ok) (hsb : sb = true ∨ ∀ x ∈ t.ins, x.sec = []) (hsec : ∀ x ∈ t.ins, x.sec.length ≤ 10000000) (hs : (encT t).length ≤ 400000000) : ECalls Tryz.prog 99 [TXv t, .lit (.bool sb)] [] fun y H' => H' = [] ∧ y = Bs (encT t) := by
  obtain ⟨t1, t2, t3, t4, t5⟩ := id ht
  have hlen : (encT t).length = (uB t.lk).length + (uB (t.ins.length : Int)).length + (insB t.ins).length + (uB (t.outs.length : Int)).length + (ousB t.outs).length := by simp [encT, mdB, hdB]; try omega
  obtain ⟨F, hF⟩ : ∃ F : Nat → List UInt8, F = fun i => hdB t ++ insB (t.ins.take i) := ⟨_, rfl⟩
  have hF0 : uB t.lk ++ uB (t.ins.length : Int) = F 0 := by rw [hF]; simp [insB, hdB]
  have hFl : ∀ i, (F i).length ≤ 400000000 := by
    intro i
    have hfl := flat_take inpB t.ins i
    rw [hF]; simp only [List.length_append, hdB]; unfold insB at *; omega
  have hFe : F t.ins.length = hdB t ++ insB t.ins := by rw [hF]; simp
  obtain ⟨K, hK⟩ : ∃ K : Nat → List UInt8, K = fun i => mdB t ++ ousB (t.outs.take i) := ⟨_, rfl⟩
  have hK0 : F t.ins.length ++ uB (t.outs.length : Int) = K 0 := by rw [hK, hFe]; simp [ousB, mdB]
  have hKl : ∀ i, (K i).length ≤ 400000000 := by
    intro i
    have hfl := flat_take oupB t.outs i
    rw [hK]; simp only [List.length_append, hdB, mdB]; unfold ousB at *; omega
  refine ecalls k_RTPut ?_
  simp [c_RTPut, TXv, txC, iC, wrap_u64n]
  refine call0 (RUint_nil (u64n t.lk) (u64n_lt _)) (by simp [I]) ?_
  rintro y H' ⟨rfl, rfl⟩
  refine ⟨.inl (by simp), le_ok rfl, ?_⟩
  simp only [uB_eq]
  simp [R, RO, wrap_u64n]
  refine call0 (RUint_ok (uB t.lk) (u64n (t.ins.length : Int)) (u64n_lt _) (by omega)) (by simp [I, Bs, List.take_of_length_le]) ?_
  rintro y H' ⟨rfl, rfl⟩
  refine ⟨.inr ⟨rfl, by simp [RO, bsv, cb]⟩, le_ok rfl, ?_⟩
  simp only [uB_eq, hF0]
  simp [R, RO, wrap_u64n]
  refine eloop (α := Nat) (fun i => i ≤ t.ins.length) (fun i => t.ins.length - i)
    (fun i => [xA, .lit (.bool sb), Ptr 0, xA, xA, R 1 (F i), I .i64 i, xA, xA, xA, xA, xA, xA, xA, xA, xA, xA, xA, xA, xA, xA, xA, xA, xA, xA, xA, xA, xA, xA, xA, xA, xA, xA, xA, xA, xA, xA, xA, xA, xA, xA, xA, xA, xA, xA, xA, xA, xA, xA, xA, xA, xA, xA, xA, xA, xA, xA, xA, xA, xA, xA, xA, xA, xA, xA, xA, xA, xA, xA, xA, xA, xA, xA, xA, xA, xA, xA, xA, xA, xA, .any]) (fun i => [some (.box 69 (txC t)), some (RO (F i))]) 0 [0, 160]
    (Nat.zero_le _) (by simp [Ptr, I, R]) (by simp [RO, txC, iC]) (by simp) (by simp) (by simp) ?_
  intro i hi
  have hX := hFl i
  simp [Ptr, I, R, RO, txC, iC]
  refine alt (fun hlt => ?_) (fun hlt => ?_)
  · have hln : i < t.ins.length := by omega
    obtain ⟨x, hcx⟩ : ∃ x, t.ins[i]? = some x := ⟨t.ins[i], by simp [hln]⟩
    have hge : (inpv t.ins)[i]'(by simpa using hln) = inpF x := gE (inpv_get hcx)
    have hx := t2 x (List.mem_of_getElem? hcx)
    obtain ⟨x1, x2, x3, x4⟩ := id hx
    have x5 := hsec x (List.mem_of_getElem? hcx)
    have l0 := ic_len x1
    have f0 := if_len x1
    have tk := ic_take x1
    have th := ic_hash x1
    have e32 := idx_of (ic_32 x1) (by omega)
    have e33 := idx_of (ic_33 x1) (by omega)
    have e34 := idx_of (ic_34 x1) (by omega)
    have w1 := wS (i := i) (by omega)
    have hfs := flat_take_s inpB hcx
    have hbl : (inpB x).length = 32 + ((uB x.n).length + ((uB x.br).length + (bytesB x.sec).length)) := by simp [inpB, x1]
    have hXb : (F i).length + (inpB x).length ≤ 400000000 := by
      rw [hF]; simp only [List.length_append, hdB]; unfold insB at *; omega
    have hFs : F (i + 1) = F i ++ inpB x := by rw [hF]; simp [take_s hcx, insB_snoc]
    simp [hln, hge, inpF_fz, l0, f0, tk, th, e32, e33, e34, wrap_u64n, drop35h, iC, RO, R, Ptr]
    refine call0 (RHash_ok (F i) x.tx (by omega) x1) (by simp [Ag, Bs, List.take_of_length_le]) ?_
    rintro y H' ⟨rfl, rfl⟩
    refine ⟨.inr ⟨rfl, by simp [RO, bsv, cb]⟩, le_ok rfl, ?_⟩
    simp [hln, hge, inpF_fz, l0, f0, tk, th, e32, e33, e34, wrap_u64n, drop35h, iC, RO, R, Ptr]
    refine call0 (RUint_ok (F i ++ x.tx) (u64n x.n) (u64n_lt _) (by simp; omega)) (by simp [I, Bs, List.take_of_length_le]) ?_
    rintro y H' ⟨rfl, rfl⟩
    refine ⟨.inr ⟨rfl, by simp [RO, bsv, cb]⟩, le_ok rfl, ?_⟩
    simp only [uB_eq]
    simp [hln, hge, inpF_fz, l0, f0, tk, th, e32, e33, e34, wrap_u64n, drop35h, iC, RO, R, Ptr]
    refine call0 (RUint_ok (F i ++ x.tx ++ uB x.n) (u64n x.br) (u64n_lt _) (by simp; omega)) (by simp [I, Bs, List.take_of_length_le]) ?_
    rintro y H' ⟨rfl, rfl⟩
    refine ⟨.inr ⟨rfl, by simp [RO, bsv, cb]⟩, le_ok rfl, ?_⟩
    simp only [uB_eq]
    have hGe : F i ++ x.tx ++ uB x.n ++ uB x.br ++ bytesB x.sec = F (i + 1) := by rw [hFs]; simp [inpB]
    cases sb
    · have hse : x.sec = [] := by
        rcases hsb with hsb | hsb
        · exact absurd hsb (by simp)
        · exact hsb x (List.mem_of_getElem? hcx)
      rw [hse] at hGe
      simp [hln, hge, inpF_fz, l0, f0, tk, th, e32, e33, e34, wrap_u64n, drop35h, iC, RO, R, Ptr]
      refine call0 (ecalls_nilC (e := 1) (RBytes_ok (F i ++ x.tx ++ uB x.n ++ uB x.br) [] (by simp; omega) (by simp))) (by simp [Bs, List.take_of_length_le]) ?_
      rintro y H' ⟨rfl, rfl⟩
      refine ⟨.inr ⟨rfl, by simp [RO, bsv, cb]⟩, le_ok rfl, ?_⟩
      simp only [hGe]
      simp [R, RO, Ptr, w1, -Int.natCast_add]
      exact round (i + 1) [0, 466] (by omega) (by omega) (by simp [Ptr, I, R]) (by simp [RO, txC, iC]) (by simp) (by simp) (by simp)
    · simp [hln, hge, inpF_fz, l0, f0, tk, th, e32, e33, e34, wrap_u64n, drop35h, iC, RO, R, Ptr]
      refine call0 (RBytes_ok (F i ++ x.tx ++ uB x.n ++ uB x.br) x.sec (by simp; omega) (by omega)) (by simp [Bs, List.take_of_length_le]) ?_
      rintro y H' ⟨rfl, rfl⟩
      refine ⟨.inr ⟨rfl, by simp [RO, bsv, cb]⟩, le_ok rfl, ?_⟩
      simp only [hGe]
      simp [R, RO, Ptr, w1, -Int.natCast_add]
      exact round (i + 1) [0, 498] (by omega) (by omega) (by simp [Ptr, I, R]) (by simp [RO, txC, iC]) (by simp) (by simp) (by simp)
  have hil : i = t.ins.length := by omega
  subst hil
  simp [wrap_u64n]
  refine call0 (RUint_ok (F t.ins.length) (u64n (t.outs.length : Int)) (u64n_lt _) (by omega)) (by simp [I, Bs, List.take_of_length_le]) ?_
  rintro y H' ⟨rfl, rfl⟩
  refine ⟨.inr ⟨rfl, by simp [RO, bsv, cb]⟩, le_ok rfl, ?_⟩
  simp only [uB_eq, hK0]
  simp [R, RO]
  refine eloop (α := Nat) (fun i => i ≤ t.outs.length) (fun i => t.outs.length - i)
    (fun i => [xA, xA, Ptr 0, xA, xA, R 1 (K i), xA, xA, I .i64 i, xA, xA, xA, xA, xA, xA, xA, xA, xA, xA, xA, xA, xA, xA, xA, xA, xA, xA, xA, xA, xA, xA, xA, xA, xA, xA, xA, xA, xA, xA, xA, xA, xA, xA, xA, xA, xA, xA, xA, xA, xA, xA, xA, xA, xA, xA, xA, xA, xA, xA, xA, xA, xA, xA, xA, xA, xA, xA, xA, xA, xA, xA, xA, xA, xA, xA, xA, xA, xA, xA, xA, .any]) (fun i => [some (.box 69 (txC t)), some (RO (K i))]) 0 [0, 162]
    (Nat.zero_le _) (by simp [Ptr, I, R]) (by simp [RO, txC, iC]) (by simp) (by simp) (by simp) ?_
  intro i hi
  have hX := hKl i
  simp [Ptr, I, R, RO, txC, iC]
  refine alt (fun hlt => ?_) (fun hlt => ?_)
  · have hln : i < t.outs.length := by omega
    obtain ⟨x, hcx⟩ : ∃ x, t.outs[i]? = some x := ⟨t.outs[i], by simp [hln]⟩
    have hge : (outv t.outs)[i]'(by simpa using hln) = outF x := gE (outv_get hcx)
    obtain ⟨x1, x2, x3⟩ := t3 x (List.mem_of_getElem? hcx)
    have w1 := wS (i := i) (by omega)
    have hfs := flat_take_s oupB hcx
    have hbl : (oupB x).length = (uB x.am).length + (cndB x.cs).length := by simp [oupB]
    have hXb : (K i).length + (oupB x).length ≤ 400000000 := by
      rw [hK]; simp only [List.length_append, hdB, mdB]; unfold ousB at *; omega
    have hKs : K (i + 1) = K i ++ oupB x := by rw [hK]; simp [take_s hcx, ousB_snoc]
    simp [hln, hge, outF, iF, wrap_u64n]
    refine call0 (RUint_ok (K i) (u64n x.am) (u64n_lt _) (by omega)) (by simp [I, Bs, List.take_of_length_le]) ?_
    rintro y H' ⟨rfl, rfl⟩
    refine ⟨.inr ⟨rfl, by simp [RO, bsv, cb]⟩, le_ok rfl, ?_⟩
    simp only [uB_eq]
    simp [hln, hge, outF, iF, R, RO, wrap_u64n]
    refine call0 (RCPut_ok (K i ++ uB x.am) x.cs x2 x3 (by simp; omega)) (by simp [CNv, Bs, List.take_of_length_le]) ?_
    rintro y H' ⟨rfl, rfl⟩
    refine ⟨.inr ⟨rfl, by simp [RO, bsv, cb]⟩, le_ok rfl, ?_⟩
    have hGe : K i ++ uB x.am ++ cndB x.cs = K (i + 1) := by rw [hKs]; simp [oupB]
    simp only [hGe]
    simp [R, RO, w1, -Int.natCast_add]
    exact round (i + 1) [0, 322] (by omega) (by omega) (by simp [R, I, Ptr]) (by simp [RO, txC, iC]) (by simp) (by simp) (by simp)
  have hil : i = t.outs.length := by omega
  subst hil
  have hKe : K t.outs.length = encT t := by rw [hK]; simp [encT]
  simp
  refine finW _ (weak_frz (o := 1) (ty := 5) (es := 1) (xs := bsv (K t.outs.length)) rfl) ?_
  exact fin [] (by decide) rfl rfl rfl ⟨rfl, by simp [Bs, hKe, List.take_of_length_le]⟩
theorem RTPut_ok (t : Txn) (ht : t.ok) (hsec : ∀ x ∈ t.ins, x.sec.length ≤ 10000000) (hs : (encT t).length ≤ 400000000) : ECalls Tryz.prog 99 [TXv t, .lit (.bool true)] [] fun y H' => H' = [] ∧ y = Bs (encT t) :=
  RTPutF_ok true t ht (.inl rfl) hsec hs
theorem RTEncode_ok (t : Txn) (ht : t.ok) (hsec : ∀ x ∈ t.ins, x.sec.length ≤ 10000000) (hs : (encT t).length ≤ 400000000) : ECalls Tryz.prog 55 [TXv t] [] fun y H' => H' = [] ∧ y = Bs (encT t) := by
  refine ecalls k_RTEncode ?_
  simp [c_RTEncode, TXv, txC, iC]
  refine call0 (RTPut_ok t ht hsec hs) (by simp [TXv, txC, iC]) ?_
  rintro y H' ⟨rfl, rfl⟩
  refine ⟨.inl (by simp [Bs]), le_ok rfl, ?_⟩
  simp [Bs]
  exact fin0
def gN : FV → FV
  | .sl _ [] => .lit (.slice none 0 0)
  | x => x
def Bra.sm (b : Bra) : Prop := b.lock.length = 32 ∧ b.keys.length ≤ 1000
def Outp.sm (o : Outp) : Prop := (∀ b ∈ o.cs, b.sm) ∧ o.cs.length ≤ 100
def Inp.sm (x : Inp) : Prop := x.tx.length = 32 ∧ x.sec.length ≤ 10000
def Txn.sm (t : Txn) : Prop := (∀ x ∈ t.ins, x.sm) ∧ (∀ o ∈ t.outs, o.sm) ∧ t.ins.length ≤ 400 ∧ t.outs.length ≤ 400
theorem braB_le {b : Bra} (h : b.sm) : (braB b).length ≤ 9100 := by
  have h1 := uB_len (b.keys.length : Int)
  have h2 := usB_len b.keys
  have h3 := uB_len b.af
  have h4 := uB_len b.ol
  obtain ⟨q1, q2⟩ := h
  simp only [braB, List.length_append]
  omega
theorem cndB_le {l : List Bra} (h : ∀ b ∈ l, b.sm) (hn : l.length ≤ 100) : (cndB l).length ≤ 920000 := by
  have h1 := uB_len (l.length : Int)
  have h2 : (brsB l).length ≤ 9100 * l.length := flat_len fun b hb => braB_le (h b hb)
  simp only [cndB, List.length_append]
  omega
theorem oupB_le {o : Outp} (h : o.sm) : (oupB o).length ≤ 930000 := by
  have h1 := uB_len o.am
  have h2 := cndB_le h.1 h.2
  simp only [oupB, List.length_append]
  omega
theorem inpB_le {x : Inp} (h : x.sm) : (inpB x).length ≤ 20100 := by
  have h1 := uB_len x.n
  have h2 := uB_len x.br
  have h3 := stuff_len x.sec
  obtain ⟨q1, q2⟩ := h
  simp only [inpB, bytesB, List.length_append, List.length_cons, List.length_nil]
  omega
theorem encT_le {t : Txn} (h : t.sm) : (encT t).length ≤ 400000000 := by
  obtain ⟨q1, q2, q3, q4⟩ := h
  have h1 := uB_len t.lk
  have h2 := uB_len (t.ins.length : Int)
  have h3 := uB_len (t.outs.length : Int)
  have h4 : (insB t.ins).length ≤ 20100 * t.ins.length := flat_len fun x hx => inpB_le (q1 x hx)
  have h5 : (ousB t.outs).length ≤ 930000 * t.outs.length := flat_len fun x hx => oupB_le (q2 x hx)
  simp only [encT, mdB, hdB, List.length_append]
  omega
theorem sm_sec {t : Txn} (h : t.sm) : ∀ x ∈ t.ins, x.sec.length ≤ 10000000 := fun x hx => by have := (h.1 x hx).2; omega
theorem zTx_okS : zTx.ok ∧ zTx.sm := by simp [zTx, Txn.ok, Txn.sm, i64]
theorem donT_ok {t : Txn} (h : t.ok ∧ t.sm) : (donT t).1.ok ∧ (donT t).1.sm := by
  unfold donT
  split
  · exact zTx_okS
  · exact h
@[simp] def yltz : UL | _ => [xQ 0 4 (.box 63 (.t 0)), xQ 1 6 (.box 69 (.t 2)), xQ 2 8 (.mov (.k (.bool false)))]
@[simp] def ylu0 : UL | _ => [xQ 12 21 (.pick (.t 13) (.t 20) (.k (.bool false))), xM 13 8 21]
@[simp] def ylu1 : UL | _ => xG 8 17 13 true (.lda 3 (.t 6)) :: ⟨6, (some 15), (some (13, true)), (.call 54 [(.t 14)]), [8]⟩ :: xG 7 16 13 true (.b2s (.t 15)) :: ⟨9, (some 18), (some (13, true)), (.call 55 [(.t 17)]), [7]⟩ :: xG 10 19 13 true (.b2s (.t 18)) :: xG 11 20 13 true (.bin .eql (.t 16) (.t 19)) :: hid ylu0
@[simp] def ylu2 : UL | _ => xM 0 9 1 :: xM 2 11 3 :: ⟨1, (some 10), none, (.call 17 [(.t 9)]), [2]⟩ :: xQ 3 12 (.bin .eql (.t 10) (.t 11)) :: xM 4 13 12 :: xG 5 14 13 true (.lda 3 (.t 4)) :: hid ylu1
@[simp] def ybu3 : UB | _ => .seq (reg0 (hid yltz) 3) (.seq (reg1 (hid ylu2) 14) .ret)
def c_same : EB × List QOp × Nat := ((hid ybu3), [(.mov (.t 8))], 22)
theorem k_same : cfun Tryz.prog 22 = some c_same := by kernel_rfl
theorem same_ok (t : Txn) (e : Nat) (ht : t.ok) (hs : t.sm) : ECalls Tryz.prog 22 [TXv t, .lit (errV e), TXv t, I .i64 e] [] fun y H' => H' = [] ∧ y = .lit (.bool true) := by
  have e1 := TEncode_ok t ht (sm_sec hs) (encT_le hs)
  have e2 := RTEncode_ok t ht (sm_sec hs) (encT_le hs)
  refine ecalls k_same ?_
  simp [c_same, TXv, txC, iC, I, -errV_0]
  refine call0 (num_e e) (by simp) ?_
  rintro z H' ⟨rfl, rfl⟩
  refine ⟨.inl (by simp [I]), le_ok rfl, ?_⟩
  simp [I, TXv, txC, iC, -errV_0]
  refine call0 e1 (by simp [TXv, txC, iC]) ?_
  rintro z H' ⟨rfl, rfl⟩
  refine ⟨.inl (by simp [Bs]), le_ok rfl, ?_⟩
  simp [Bs, txC, iC, -errV_0]
  refine call0 e2 (by simp [TXv, txC, iC]) ?_
  rintro z H' ⟨rfl, rfl⟩
  refine ⟨.inl (by simp [Bs]), le_ok rfl, ?_⟩
  simp [Bs, txC, iC, -errV_0]
  exact fin0
theorem outsB_sm {p : Prm} {s : Sta} {o : Int} {lock : List UInt8} (hs : s.ok) (hl : lock.length = 32) (h : bldE p s = 0) : (∀ x ∈ outsB p s o lock, x.sm) := by
  obtain ⟨k1, k2, k3, k4⟩ := outs_cond h
  obtain ⟨ok1, ok2, ok3, ok4, ok5, ok6, ok7⟩ := id hs
  have hz' : hz.length = 32 := rfl
  intro x hx
  unfold outsB at hx
  simp only [List.mem_append] at hx
  rcases hx with (hx | hx) | (hx | hx)
  · unfold out1 at hx
    split at hx
    · simp at hx; subst hx
      refine ⟨?_, by simp [ownB]⟩
      intro b hb
      simp [ownB] at hb
      rcases hb with rfl | rfl
      · exact ⟨hz', by simp⟩
      · exact ⟨hl, by simp [fineB]⟩
    · simp at hx
  · unfold out2 at hx
    split at hx
    · simp at hx; subst hx
      refine ⟨?_, by simp [allB]⟩
      intro b hb
      simp [allB] at hb
      subst hb
      exact ⟨hz', by simp [insN_len]⟩
    · simp at hx
  · obtain ⟨y, hy, rfl⟩ := List.mem_map.1 hx
    have hyo := ok4 y hy
    refine ⟨?_, by simp [paidB]⟩
    intro b hb
    simp [paidB] at hb
    rcases hb with rfl | rfl | rfl
    · exact ⟨hyo.2.2.2.2, by simp⟩
    · exact ⟨hz', by simp⟩
    · exact ⟨hl, by simp [fineB]⟩
  · obtain ⟨y, hy, rfl⟩ := List.mem_map.1 hx
    have hk := k4 y hy
    refine ⟨?_, by simp [allB]⟩
    intro b hb
    simp [allB] at hb
    subst hb
    have := hk.2.1
    exact ⟨hz', by simp [insN_len]; omega⟩
@[simp] def ylu4 : UL | _ => [xQ 0 3 (.box 28 (.t 0)), xQ 1 4 (.box 32 (.t 1)), xQ 2 5 (.box 59 (.t 2)), xQ 3 6 (.mov (.k (.bool false)))]
@[simp] def ybu5 : UB | _ => reg0 (hid ylu4) 4
@[simp] def ylu6 : UL | _ => [xN 6 (.sto 32 (.t 8) (.t 23))]
@[simp] def ylu7 : UL | _ => xQ 0 20 (.fad 0 (.t 5)) :: xQ 1 21 (.ldc (.t 20)) :: xQ 2 22 (.fad 1 (.t 5)) :: xQ 3 23 (.lda 32 (.t 22)) :: xQ 4 8 (.alloc 23 zU8) :: xM 5 7 21 :: hid ylu6
@[simp] def ylu8 : UL | _ => [xQ 0 24 (.lda 5 (.t 4)), xO 1 25 (.call 11 [(.t 24)])]
@[simp] def ybu9 : UB | _ => reg0 (hid ylu8) 2
@[simp] def ylua : UL | _ => [xO 0 26 (.call 12 []), xM 1 6 26]
@[simp] def ybub : UB | _ => reg0 (hid ylua) 2
@[simp] def yluc : UL | _ => [xN 6 (.sto 38 (.t 9) (.t 28)), xN 7 (.fz (.sto 5 (.t 10) (.t 30)))]
@[simp] def ylud : UL | _ => xQ 0 27 (.lda 38 (.t 3)) :: xQ 2 29 (.lda 5 (.t 4)) :: xQ 4 9 (.alloc 42 (zU8 ++ [xZ, xZ, xZ, xZ, xZ, xZ])) :: xQ 5 10 (.alloc 47 [xZ, xZ, xZ, xS, xS]) :: ⟨1, (some 28), none, (.call 14 [(.t 27)]), [2, 4, 5]⟩ :: ⟨3, (some 30), none, (.call 15 [(.t 29)]), [4, 5]⟩ :: hid yluc
@[simp] def ylue : UL | _ => [xQ 6 37 (.ext 0 (.t 31)), xQ 7 38 (.ext 1 (.t 31)), xQ 8 11 (.alloc 63 [xZ, xS, xS]), xN 9 (.fz (.sto 3 (.t 11) (.t 37))), xM 10 12 38]
@[simp] def yluf : UL | _ => xQ 0 32 (.lda 38 (.t 9)) :: xQ 1 33 (.lda 5 (.t 10)) :: xM 2 34 7 :: xQ 3 35 (.lda 32 (.t 8)) :: xO 4 36 (.call 18 [(.t 32), (.t 33), (.t 34), (.t 35)]) :: xM 5 31 36 :: hid ylue
@[simp] def ylug : UL | _ => [xQ 6 45 (.ext 0 (.t 39)), xQ 7 46 (.ext 1 (.t 39)), xQ 8 13 (.alloc 69 [xZ, xS, xS]), xN 9 (.fz (.sto 3 (.t 13) (.t 45))), xM 10 14 46]
@[simp] def yluh : UL | _ => xQ 0 40 (.lda 38 (.t 3)) :: xQ 1 41 (.lda 5 (.t 4)) :: xM 2 42 7 :: xQ 3 43 (.lda 32 (.t 8)) :: xO 4 44 (.call 19 [(.t 40), (.t 41), (.t 42), (.t 43)]) :: xM 5 39 44 :: hid ylug
@[simp] def ylui : UL | _ => [xQ 6 53 (.ext 1 (.t 47)), xM 7 15 52, xM 8 16 53]
@[simp] def yluj : UL | _ => xQ 0 48 (.lda 38 (.t 9)) :: xQ 1 49 (.lda 5 (.t 10)) :: xM 2 50 7 :: xO 3 51 (.call 13 [(.t 48), (.t 49), (.t 50)]) :: xM 4 47 51 :: xQ 5 52 (.ext 0 (.t 47)) :: hid ylui
@[simp] def yluk : UL | _ => [xQ 6 60 (.ext 1 (.t 54)), xM 7 17 59, xM 8 18 60]
@[simp] def ylul : UL | _ => xQ 0 55 (.lda 38 (.t 3)) :: xQ 1 56 (.lda 5 (.t 4)) :: xM 2 57 7 :: xO 3 58 (.call 16 [(.t 55), (.t 56), (.t 57)]) :: xM 4 54 58 :: xQ 5 59 (.ext 0 (.t 54)) :: hid yluk
@[simp] def ylum : UL | _ => [⟨18, (some 79), (some (72, false)), (.call 21 [(.t 77), (.t 78)]), []⟩, xG 19 80 72 false (.bin .neq (.t 76) (.t 79)), xQ 20 81 (.pick (.t 72) (.k (.bool true)) (.t 80))]
@[simp] def ylun : UL | _ => xG 12 73 72 false (.lda 38 (.t 9)) :: xG 13 74 72 false (.lda 5 (.t 10)) :: xG 16 77 72 false (.lda 38 (.t 3)) :: xG 17 78 72 false (.lda 5 (.t 4)) :: ⟨14, (some 75), (some (72, false)), (.call 20 [(.t 73), (.t 74)]), [16, 17]⟩ :: ⟨15, (some 76), (some (72, false)), (.call 17 [(.t 75)]), [16, 17]⟩ :: hid ylum
@[simp] def yluo : UL | _ => [xQ 0 6 (.mov (.k (.bool false)))]
@[simp] def ybup : UB | _ => reg0 (hid yluo) 1
@[simp] def yluq : UL | _ => [xQ 0 19 (.mov (xK 0))]
@[simp] def ybur : UB | _ => reg0 (hid yluq) 1
@[simp] def ylus : UL | _ => [xM 0 82 19, xM 1 83 15, xQ 2 84 (.len (.t 83)), xQ 3 85 (.bin .lss (.t 82) (.t 84))]
@[simp] def ybut : UB | _ => reg0 (hid ylus) 4
@[simp] def yluu : UL | _ => [xQ 6 94 (.isl 2 (.t 92) (.t 93)), xQ 7 95 (.lda 2 (.t 94)), xQ 8 96 (.eqw true [(2, .i64)] (.t 91) (.t 95))]
@[simp] def yluv : UL | _ => xM 0 88 15 :: xM 1 89 19 :: xQ 2 90 (.isl 2 (.t 88) (.t 89)) :: xQ 3 91 (.lda 2 (.t 90)) :: xM 4 92 17 :: xM 5 93 19 :: hid yluu
@[simp] def yluw : UL | _ => [xQ 0 6 (.mov (.k (.bool false)))]
@[simp] def ybux : UB | _ => reg0 (hid yluw) 1
@[simp] def yluy : UL | _ => [xM 0 86 19, xQ 1 87 (.bin .add (.t 86) (xK 1)), xM 2 19 87]
@[simp] def ybuz : UB | _ => reg0 (hid yluy) 3
@[simp] def ylv0 : UL | _ => [⟨6, (some 103), (some (102, true)), (.call 12 []), []⟩, xQ 7 104 (.pick (.t 102) (.t 103) (.k (.bool false))), xM 8 6 104]
@[simp] def ylv1 : UL | _ => xQ 0 97 (.lda 3 (.t 11)) :: xM 1 98 12 :: xQ 2 99 (.lda 3 (.t 13)) :: xM 3 100 14 :: xO 4 101 (.call 22 [(.t 97), (.t 98), (.t 99), (.t 100)]) :: xM 5 102 101 :: hid ylv0
def owC (o : Int) (lock sec : List UInt8) : List EC := iC o :: (hc lock ++ [.fz (.sl 1 (bsv sec))])
def owF (o : Int) (lock sec : List UInt8) : List FV := iF o :: (hf lock ++ [.sl 1 (bsv sec)])
theorem owF_fz (o : Int) (lock sec : List UInt8) : (owF o lock sec).map EC.fz = owC o lock sec := by simp [owF, owC, iF, iC]
def OwV (o : Int) (lock sec : List UInt8) : EV := .v (.agg (owC o lock sec))
theorem opn_owner : Opn BB Tryz.prog 59 (fun q : Int × List UInt8 × List UInt8 => owF q.1 q.2.1 q.2.2) (fun q => i64 q.1 ∧ q.2.1.length = 32) (fun q => 1 + q.2.2.length) :=
  (opn_struct (tot := 34) bok Tryz.underlying59 (by kernel_rfl)
    (opnFs_cons bok (n := 1) (tot := 33) opn_i64 rfl (by kernel_rfl) (opnFs_cons bok (n := 32) (tot := 1) opn_hash rfl (by kernel_rfl) (opnFs_cons bok (n := 1) (tot := 0) opn_bytes rfl (by kernel_rfl) opnFs_nil)))).map
    (fun q => (q.1, q.2.1, q.2.2.1)) (by rintro ⟨a, b, c, u⟩ _; simp [owF, iF]) (by rintro ⟨a, b, c, u⟩ h; exact ⟨h.1, h.2.1⟩) (by rintro ⟨a, b, c, u⟩ _; simp; try omega)
def zOwV : Value := .agg (#[.int .i64 0] ++ Array.replicate 32 (.int .u8 0) ++ #[.slice none 0 0])
def zOwD {H : Type} : DataW H := .agg [.lit (.int .i64 0), .agg (List.replicate 32 (.lit (.int .u8 0))), .nil]
@[simp] def ylv2 : UL | _ => [xQ 0 4 (.mov (.k (.int .u32 0)))]
@[simp] def ylv3 : UL | _ => [xM 0 6 1, xQ 1 7 (.cnv .u64 (.t 6)), xQ 2 8 (.bin .and (.t 7) (.k (.int .u64 31))), xM 3 5 8]
@[simp] def ylv4 : UL | _ => [xQ 6 15 (.bin .shr (.t 12) (.t 14)), xQ 7 16 (.bin .or (.t 11) (.t 15)), xM 8 4 16]
@[simp] def ylv5 : UL | _ => xM 0 9 0 :: xM 1 10 5 :: xQ 2 11 (.bin .shl (.t 9) (.t 10)) :: xM 3 12 0 :: xM 4 13 5 :: xQ 5 14 (.bin .sub (.k (.int .u64 32)) (.t 13)) :: hid ylv4
@[simp] def ybv6 : UB | _ => .seq (reg0 (hid ylv2) 1) (.seq (reg0 (hid ylv3) 4) (.seq (reg0 (hid ylv5) 9) .ret))
def c_Rot : EB × List QOp × Nat := ((hid ybv6), [(.mov (.t 4))], 17)
theorem k_Rot : cfun Tryz.prog 200 = some c_Rot := by kernel_rfl
@[simp] def ylv7 : UL | _ => [xQ 12 26 (.bin .add (.t 18) (.t 25)), xQ 13 27 (.nilc (.t 14)), xQ 14 28 (.iad 16 1 (.t 27) (.t 15)), xN 15 (.sto 1 (.t 28) (.t 26))]
@[simp] def ylv8 : UL | _ => xM 6 20 2 :: xQ 7 21 (.nilc (.t 19)) :: xQ 8 22 (.iad 16 1 (.t 21) (.t 20)) :: xQ 9 23 (.ldc (.t 22)) :: xM 10 24 5 :: xQ 11 25 (.bin .add (.t 23) (.t 24)) :: hid ylv7
@[simp] def ylv9 : UL | _ => xM 0 14 0 :: xM 1 15 1 :: xQ 2 16 (.nilc (.t 14)) :: xQ 3 17 (.iad 16 1 (.t 16) (.t 15)) :: xQ 4 18 (.ldc (.t 17)) :: xM 5 19 0 :: hid ylv8
@[simp] def ylva : UL | _ => [xQ 12 41 (.bin .xor (.t 35) (.t 40)), xQ 14 43 (.nilc (.t 29)), ⟨13, (some 42), none, (.call 200 [(.t 41), (.k (.int .i64 (-16)))]), [0, 1, 14]⟩, xQ 15 44 (.iad 16 1 (.t 43) (.t 30)), xN 16 (.sto 1 (.t 44) (.t 42))]
@[simp] def ylvb : UL | _ => xQ 6 35 (.ldc (.t 34)) :: xM 7 36 0 :: xM 8 37 1 :: xQ 9 38 (.nilc (.t 36)) :: xQ 10 39 (.iad 16 1 (.t 38) (.t 37)) :: xQ 11 40 (.ldc (.t 39)) :: hid ylva
@[simp] def ylvc : UL | _ => xM 0 29 0 :: xM 1 30 4 :: xM 2 31 0 :: xM 3 32 4 :: xQ 4 33 (.nilc (.t 31)) :: xQ 5 34 (.iad 16 1 (.t 33) (.t 32)) :: hid ylvb
@[simp] def ylvd : UL | _ => [xQ 12 57 (.iad 16 1 (.t 56) (.t 46)), xN 13 (.sto 1 (.t 57) (.t 55))]
@[simp] def ylve : UL | _ => xM 6 51 4 :: xQ 7 52 (.nilc (.t 50)) :: xQ 8 53 (.iad 16 1 (.t 52) (.t 51)) :: xQ 9 54 (.ldc (.t 53)) :: xQ 10 55 (.bin .add (.t 49) (.t 54)) :: xQ 11 56 (.nilc (.t 45)) :: hid ylvd
@[simp] def ylvf : UL | _ => xM 0 45 0 :: xM 1 46 3 :: xQ 2 47 (.nilc (.t 45)) :: xQ 3 48 (.iad 16 1 (.t 47) (.t 46)) :: xQ 4 49 (.ldc (.t 48)) :: xM 5 50 0 :: hid ylve
@[simp] def ylvg : UL | _ => [xQ 12 70 (.bin .xor (.t 64) (.t 69)), xQ 14 72 (.nilc (.t 58)), ⟨13, (some 71), none, (.call 200 [(.t 70), (.k (.int .i64 (-12)))]), [0, 1, 14]⟩, xQ 15 73 (.iad 16 1 (.t 72) (.t 59)), xN 16 (.sto 1 (.t 73) (.t 71))]
@[simp] def ylvh : UL | _ => xQ 6 64 (.ldc (.t 63)) :: xM 7 65 0 :: xM 8 66 3 :: xQ 9 67 (.nilc (.t 65)) :: xQ 10 68 (.iad 16 1 (.t 67) (.t 66)) :: xQ 11 69 (.ldc (.t 68)) :: hid ylvg
@[simp] def ylvi : UL | _ => xM 0 58 0 :: xM 1 59 2 :: xM 2 60 0 :: xM 3 61 2 :: xQ 4 62 (.nilc (.t 60)) :: xQ 5 63 (.iad 16 1 (.t 62) (.t 61)) :: hid ylvh
@[simp] def ylvj : UL | _ => [xQ 12 86 (.bin .add (.t 78) (.t 85)), xQ 13 87 (.nilc (.t 74)), xQ 14 88 (.iad 16 1 (.t 87) (.t 75)), xN 15 (.sto 1 (.t 88) (.t 86))]
@[simp] def ylvk : UL | _ => xM 6 80 2 :: xQ 7 81 (.nilc (.t 79)) :: xQ 8 82 (.iad 16 1 (.t 81) (.t 80)) :: xQ 9 83 (.ldc (.t 82)) :: xM 10 84 6 :: xQ 11 85 (.bin .add (.t 83) (.t 84)) :: hid ylvj
@[simp] def ylvl : UL | _ => xM 0 74 0 :: xM 1 75 1 :: xQ 2 76 (.nilc (.t 74)) :: xQ 3 77 (.iad 16 1 (.t 76) (.t 75)) :: xQ 4 78 (.ldc (.t 77)) :: xM 5 79 0 :: hid ylvk
@[simp] def ylvm : UL | _ => [xQ 12 101 (.bin .xor (.t 95) (.t 100)), xQ 14 103 (.nilc (.t 89)), ⟨13, (some 102), none, (.call 200 [(.t 101), (.k (.int .i64 (-8)))]), [0, 1, 14]⟩, xQ 15 104 (.iad 16 1 (.t 103) (.t 90)), xN 16 (.sto 1 (.t 104) (.t 102))]
@[simp] def ylvn : UL | _ => xQ 6 95 (.ldc (.t 94)) :: xM 7 96 0 :: xM 8 97 1 :: xQ 9 98 (.nilc (.t 96)) :: xQ 10 99 (.iad 16 1 (.t 98) (.t 97)) :: xQ 11 100 (.ldc (.t 99)) :: hid ylvm
@[simp] def ylvo : UL | _ => xM 0 89 0 :: xM 1 90 4 :: xM 2 91 0 :: xM 3 92 4 :: xQ 4 93 (.nilc (.t 91)) :: xQ 5 94 (.iad 16 1 (.t 93) (.t 92)) :: hid ylvn
@[simp] def ylvp : UL | _ => [xQ 12 117 (.iad 16 1 (.t 116) (.t 106)), xN 13 (.sto 1 (.t 117) (.t 115))]
@[simp] def ylvq : UL | _ => xM 6 111 4 :: xQ 7 112 (.nilc (.t 110)) :: xQ 8 113 (.iad 16 1 (.t 112) (.t 111)) :: xQ 9 114 (.ldc (.t 113)) :: xQ 10 115 (.bin .add (.t 109) (.t 114)) :: xQ 11 116 (.nilc (.t 105)) :: hid ylvp
@[simp] def ylvr : UL | _ => xM 0 105 0 :: xM 1 106 3 :: xQ 2 107 (.nilc (.t 105)) :: xQ 3 108 (.iad 16 1 (.t 107) (.t 106)) :: xQ 4 109 (.ldc (.t 108)) :: xM 5 110 0 :: hid ylvq
@[simp] def ylvs : UL | _ => [xQ 12 130 (.bin .xor (.t 124) (.t 129)), xQ 14 132 (.nilc (.t 118)), ⟨13, (some 131), none, (.call 200 [(.t 130), (.k (.int .i64 (-7)))]), [0, 1, 14]⟩, xQ 15 133 (.iad 16 1 (.t 132) (.t 119)), xN 16 (.sto 1 (.t 133) (.t 131))]
@[simp] def ylvt : UL | _ => xQ 6 124 (.ldc (.t 123)) :: xM 7 125 0 :: xM 8 126 3 :: xQ 9 127 (.nilc (.t 125)) :: xQ 10 128 (.iad 16 1 (.t 127) (.t 126)) :: xQ 11 129 (.ldc (.t 128)) :: hid ylvs
@[simp] def ylvu : UL | _ => xM 0 118 0 :: xM 1 119 2 :: xM 2 120 0 :: xM 3 121 2 :: xQ 4 122 (.nilc (.t 120)) :: xQ 5 123 (.iad 16 1 (.t 122) (.t 121)) :: hid ylvt
@[simp] def ybvv : UB | _ => .seq (reg1 (hid ylvo) 17) (.seq (reg0 (hid ylvr) 14) (reg1 (hid ylvu) 17))
@[simp] def ybvw : UB | _ => .seq (reg1 (hid ylvi) 17) (.seq (reg0 (hid ylvl) 16) (hid ybvv))
@[simp] def ybvx : UB | _ => .seq (reg1 (hid ylvc) 17) (.seq (reg0 (hid ylvf) 14) (hid ybvw))
@[simp] def ybvy : UB | _ => .seq (reg0 (hid ylv9) 16) (hid ybvx)
def c_mix : EB × List QOp × Nat := ((hid ybvy), [], 134)
theorem k_mix : cfun Tryz.prog 187 = some c_mix := by kernel_rfl
@[simp] def ylvz : UL | _ => [xQ 0 0 (.alloc 229 [(.int .u32 0), (.int .u32 0), (.int .u32 0), (.int .u32 0), (.int .u32 0), (.int .u32 0), (.int .u32 0), (.int .u32 0)])]
@[simp] def ylw0 : UL | _ => [xQ 0 1 (.build [(.int .u32 0), (.int .u32 0), (.int .u32 0), (.int .u32 0), (.int .u32 0), (.int .u32 0), (.int .u32 0), (.int .u32 0)] [(0, 1, (.k (.int .u32 1779033703))), (1, 1, (.k (.int .u32 3144134277))), (2, 1, (.k (.int .u32 1013904242))), (3, 1, (.k (.int .u32 2773480762))), (4, 1, (.k (.int .u32 1359893119))), (5, 1, (.k (.int .u32 2600822924))), (6, 1, (.k (.int .u32 528734635))), (7, 1, (.k (.int .u32 1541459225)))]), xN 1 (.sto 8 (.t 0) (.t 1))]
@[simp] def ybw1 : UB | _ => .seq (reg0 (hid ylvz) 1) (.seq (reg0 (hid ylw0) 2) .ret)
def c_first : EB × List QOp × Nat := ((hid ybw1), [(.lda 8 (.t 0))], 2)
theorem k_first : cfun Tryz.prog 116 = some c_first := by kernel_rfl
def wi (x : UInt32) : Int := (x.toNat : Int)
def wc (x : UInt32) : EC := .fz (.lit (.int .u32 (wi x)))
def wl (l : List UInt32) : List EC := l.map wc
def WV (x : UInt32) : EV := .lit (.int .u32 (wi x))
def NV (n : Int) : EV := .lit (.int .i64 n)
@[simp] theorem wl_len (l : List UInt32) : (wl l).length = l.length := by simp [wl]
theorem wl_get {l : List UInt32} {i : Nat} {x : UInt32} (h : l[i]? = some x) : (wl l)[i]? = some (wc x) := by simp [wl, h]
theorem wl_set (l : List UInt32) (i : Nat) (x : UInt32) : (wl l).set i (.fz (.lit (.int .u32 (wi x)))) = wl (l.set i x) := by simp [wl, List.map_set, wc]
@[simp] theorem conAll_wl (H : Nat → Option EO) (ids : List Nat) (l : List UInt32) : conAll H ids (wl l) = some (wl l) := by
  induction l with
  | nil => rfl
  | cons b t ih =>
    have e : wl (b :: t) = .fz (.lit (.int .u32 (wi b))) :: wl t := rfl
    rw [e]
    simp only [conAll, ih]
    simp
@[simp] theorem strAll_wl (ids : List Nat) (l : List UInt32) : strAll ids (wl l) = some (wl l) := by
  induction l with
  | nil => rfl
  | cons b r ih => simp only [wl, List.map_cons, strAll] at *; rw [ih]; rfl
@[simp] theorem refs_wl (l : List UInt32) : (wl l).flatMap refsC = [] := by
  induction l with
  | nil => rfl
  | cons b r ih => simp only [wl, List.map_cons, List.flatMap_cons] at *; rw [ih]; rfl
@[simp] theorem fz_wl (ids : List Nat) (l : List UInt32) : (wl l).flatMap (fzC ids) = [] := by
  induction l with
  | nil => rfl
  | cons b r ih => simp only [wl, List.map_cons, List.flatMap_cons] at *; rw [ih]; rfl
@[simp] theorem ren_wl (g : Nat → Nat) (l : List UInt32) : (wl l).map (renC g) = wl l := by
  induction l with
  | nil => rfl
  | cons b r ih => simp only [wl, List.map_cons] at *; rw [ih]; rfl
def shl (x : UInt32) (k : Nat) : UInt32 := UInt32.ofNat (x.toNat * 2 ^ k)
def shr (x : UInt32) (k : Nat) : UInt32 := UInt32.ofNat (x.toNat / 2 ^ k)
def rotr (x : UInt32) (k : Nat) : UInt32 := shl x (32 - k) ||| shr x k
theorem u32_mod (n : Int) : IntKind.u32.wrap n = n % 4294967296 := by simp [IntKind.wrap, IntKind.bits, IntKind.signed]
theorem wi_ofNat (n : Nat) : wi (UInt32.ofNat n) = (n : Int) % 4294967296 := by
  unfold wi
  rw [UInt32.toNat_ofNat']
  omega
theorem wi_b (x : UInt32) : 0 ≤ wi x ∧ wi x < 4294967296 := by
  unfold wi
  have := x.toNat_lt
  simp at *
  omega
theorem wi_add (x y : UInt32) : IntKind.u32.wrap (wi x + wi y) = wi (x + y) := by
  rw [u32_mod]
  unfold wi
  rw [UInt32.toNat_add]
  omega
theorem wi_of (x : UInt32) : BitVec.ofInt IntKind.u32.bits (wi x) = x.toBitVec := by
  unfold wi
  simp [IntKind.bits]
theorem wrap_wi (x : UInt32) : IntKind.u32.wrap (wi x) = wi x := by
  have := wi_b x
  rw [u32_mod]; omega
theorem wi_xor (x y : UInt32) : ibit .xor .u32 (wi x) (wi y) = wi (x ^^^ y) := by
  have h3 : (BitVec.ofInt IntKind.u32.bits (wi x) ^^^ BitVec.ofInt IntKind.u32.bits (wi y)).toNat = (x ^^^ y).toNat := by
    rw [wi_of, wi_of]; rfl
  refine (congrArg (fun n : Nat => IntKind.u32.wrap (n : Int)) h3).trans ?_
  exact wrap_wi (x ^^^ y)
theorem wi_or (x y : UInt32) : ibit .or .u32 (wi x) (wi y) = wi (x ||| y) := by
  have h3 : (BitVec.ofInt IntKind.u32.bits (wi x) ||| BitVec.ofInt IntKind.u32.bits (wi y)).toNat = (x ||| y).toNat := by
    rw [wi_of, wi_of]; rfl
  refine (congrArg (fun n : Nat => IntKind.u32.wrap (n : Int)) h3).trans ?_
  exact wrap_wi (x ||| y)
theorem wi_shl (x : UInt32) (k : Nat) (h : k ≤ 32) : ishl .u32 (wi x) (k : Int) = wi (shl x k) := by
  unfold ishl shl
  rw [wi_ofNat, u32_mod, show min (k : Int).toNat IntKind.u32.bits = k by simp [IntKind.bits]; omega]
  unfold wi
  simp
theorem wi_shr (x : UInt32) (k : Nat) (h : k ≤ 32) : ishr .u32 (wi x) (k : Int) = wi (shr x k) := by
  have e : ishr .u32 (wi x) (k : Int) = ((x.toNat / 2 ^ k : Nat) : Int) := ishr_nat .u32 x.toNat k h
  rw [e]
  unfold shr
  rw [wi_ofNat]
  have h1 : x.toNat / 2 ^ k ≤ x.toNat := Nat.div_le_self _ _
  have h2 := x.toNat_lt
  generalize x.toNat / 2 ^ k = q at *
  omega
theorem Rot16_ok (x : UInt32) : ECalls Tryz.prog 200 [WV x, NV (-16)] [] fun y H' => H' = [] ∧ y = WV (rotr x 16) := by
  have s1 : ishl .u32 (wi x) 16 = wi (shl x 16) := wi_shl x 16 (by omega)
  have r1 : ishr .u32 (wi x) 16 = wi (shr x 16) := wi_shr x 16 (by omega)
  have a1 : IntKind.u64.wrap (-16) = 18446744073709551600 := by decide +kernel
  have a2 : ibit .and .u64 18446744073709551600 31 = 16 := by decide +kernel
  have a3 : IntKind.u64.wrap 16 = 16 := by decide +kernel
  refine ecalls k_Rot ?_
  simp [c_Rot, WV, NV, a1, a2, a3, s1, r1, wi_or]
  exact fin0
theorem Rot12_ok (x : UInt32) : ECalls Tryz.prog 200 [WV x, NV (-12)] [] fun y H' => H' = [] ∧ y = WV (rotr x 12) := by
  have s1 : ishl .u32 (wi x) 20 = wi (shl x 20) := wi_shl x 20 (by omega)
  have r1 : ishr .u32 (wi x) 12 = wi (shr x 12) := wi_shr x 12 (by omega)
  have a1 : IntKind.u64.wrap (-12) = 18446744073709551604 := by decide +kernel
  have a2 : ibit .and .u64 18446744073709551604 31 = 20 := by decide +kernel
  have a3 : IntKind.u64.wrap 12 = 12 := by decide +kernel
  refine ecalls k_Rot ?_
  simp [c_Rot, WV, NV, a1, a2, a3, s1, r1, wi_or]
  exact fin0
theorem Rot8_ok (x : UInt32) : ECalls Tryz.prog 200 [WV x, NV (-8)] [] fun y H' => H' = [] ∧ y = WV (rotr x 8) := by
  have s1 : ishl .u32 (wi x) 24 = wi (shl x 24) := wi_shl x 24 (by omega)
  have r1 : ishr .u32 (wi x) 8 = wi (shr x 8) := wi_shr x 8 (by omega)
  have a1 : IntKind.u64.wrap (-8) = 18446744073709551608 := by decide +kernel
  have a2 : ibit .and .u64 18446744073709551608 31 = 24 := by decide +kernel
  have a3 : IntKind.u64.wrap 8 = 8 := by decide +kernel
  refine ecalls k_Rot ?_
  simp [c_Rot, WV, NV, a1, a2, a3, s1, r1, wi_or]
  exact fin0
theorem Rot7_ok (x : UInt32) : ECalls Tryz.prog 200 [WV x, NV (-7)] [] fun y H' => H' = [] ∧ y = WV (rotr x 7) := by
  have s1 : ishl .u32 (wi x) 25 = wi (shl x 25) := wi_shl x 25 (by omega)
  have r1 : ishr .u32 (wi x) 7 = wi (shr x 7) := wi_shr x 7 (by omega)
  have a1 : IntKind.u64.wrap (-7) = 18446744073709551609 := by decide +kernel
  have a2 : ibit .and .u64 18446744073709551609 31 = 25 := by decide +kernel
  have a3 : IntKind.u64.wrap 7 = 7 := by decide +kernel
  refine ecalls k_Rot ?_
  simp [c_Rot, WV, NV, a1, a2, a3, s1, r1, wi_or]
  exact fin0
def firstW : List UInt32 := [0x6a09e667, 0xbb67ae85, 0x3c6ef372, 0xa54ff53a, 0x510e527f, 0x9b05688c, 0x1f83d9ab, 0x5be0cd19]
theorem first_ok : ECalls Tryz.prog 116 [] [] fun y H' => H' = [] ∧ y = .v (.agg (wl firstW)) := by
  refine ecalls k_first ?_
  simp [c_first]
  exact fin0
theorem pun_x32 (x : UInt32) : pun .xor (.int .u32 (wi x)) = some (.int .u32 (wi (~~~x))) := by
  have h3 : (BitVec.ofInt IntKind.u32.bits (-1) ^^^ BitVec.ofInt IntKind.u32.bits (wi x)).toNat = (~~~x).toNat := by
    rw [wi_of]
    have k : BitVec.allOnes 32 ^^^ x.toBitVec = ~~~ x.toBitVec := BitVec.allOnes_xor
    exact congrArg BitVec.toNat k
  simp only [pun, Option.some.injEq, Value.int.injEq, true_and]
  refine (congrArg (fun n : Nat => IntKind.u32.wrap (n : Int)) h3).trans ?_
  exact wrap_wi (~~~x)
def g (v : List UInt32) (i : Nat) : UInt32 := (v[i]?).getD 0
def mixS (v : List UInt32) (a b c d : Nat) (x y : UInt32) : List UInt32 :=
  let v := v.set a (g v a + (g v b + x))
  let v := v.set d (rotr (g v d ^^^ g v a) 16)
  let v := v.set c (g v c + g v d)
  let v := v.set b (rotr (g v b ^^^ g v c) 12)
  let v := v.set a (g v a + (g v b + y))
  let v := v.set d (rotr (g v d ^^^ g v a) 8)
  let v := v.set c (g v c + g v d)
  v.set b (rotr (g v b ^^^ g v c) 7)
def VO (v : List UInt32) : EO := .box 308 (wl v)
theorem wl_put {v : List UInt32} {i : Nat} {x : UInt32} (h : i < v.length) : List.take i (wl v) ++ .fz (.lit (.int .u32 (wi x))) :: List.drop (i + 1) (wl v) = wl (v.set i x) := by
  rw [← wl_set, List.set_eq_take_append_cons_drop, if_pos (by simpa using h)]
theorem wl_g {v : List UInt32} {i : Nat} (h : i < v.length) : (wl v)[i]? = some (.fz (.lit (.int .u32 (wi (g v i))))) := by
  refine wl_get (x := g v i) ?_
  unfold g
  rw [List.getElem?_eq_getElem h]
  rfl
theorem wl_gE {v : List UInt32} {i : Nat} (h : i < v.length) (h2 : i < (wl v).length) : (wl v)[i]'h2 = .fz (.lit (.int .u32 (wi (g v i)))) := by
  have := wl_g h
  rw [List.getElem?_eq_getElem h2] at this
  exact Option.some.inj this
set_option maxRecDepth 8000 in
theorem mix_ok (v : List UInt32) (a b c d : Nat) (x y : UInt32) (hv : v.length = 16) (ha : a < 16) (hb : b < 16) (hc : c < 16) (hd : d < 16) : ECalls Tryz.prog 187 [.v (.c (.ptr 0 0)), NV a, NV b, NV c, NV d, WV x, WV y] [VO v] fun y' H' => H' = [some (VO (mixS v a b c d x y))] ∧ y' = .tup [] := by
  have la : a < v.length := by omega
  have lb : b < v.length := by omega
  have lc : c < v.length := by omega
  have ld : d < v.length := by omega
  have xa : a ≤ 15 := by omega
  have xb : b ≤ 15 := by omega
  have xc : c ≤ 15 := by omega
  have xd : d ≤ 15 := by omega
  have ia : (a : Int) < 16 := by omega
  have ib : (b : Int) < 16 := by omega
  have ic : (c : Int) < 16 := by omega
  have id' : (d : Int) < 16 := by omega
  obtain ⟨v1, h1⟩ : ∃ w, v.set a (g v a + (g v b + x)) = w := ⟨_, rfl⟩
  have e1 : v1.length = 16 := by rw [← h1, List.length_set]; exact hv
  obtain ⟨v2, h2⟩ : ∃ w, v1.set d (rotr (g v1 d ^^^ g v1 a) 16) = w := ⟨_, rfl⟩
  have e2 : v2.length = 16 := by rw [← h2, List.length_set]; exact e1
  obtain ⟨v3, h3⟩ : ∃ w, v2.set c (g v2 c + g v2 d) = w := ⟨_, rfl⟩
  have e3 : v3.length = 16 := by rw [← h3, List.length_set]; exact e2
  obtain ⟨v4, h4⟩ : ∃ w, v3.set b (rotr (g v3 b ^^^ g v3 c) 12) = w := ⟨_, rfl⟩
  have e4 : v4.length = 16 := by rw [← h4, List.length_set]; exact e3
  obtain ⟨v5, h5⟩ : ∃ w, v4.set a (g v4 a + (g v4 b + y)) = w := ⟨_, rfl⟩
  have e5 : v5.length = 16 := by rw [← h5, List.length_set]; exact e4
  obtain ⟨v6, h6⟩ : ∃ w, v5.set d (rotr (g v5 d ^^^ g v5 a) 8) = w := ⟨_, rfl⟩
  have e6 : v6.length = 16 := by rw [← h6, List.length_set]; exact e5
  obtain ⟨v7, h7⟩ : ∃ w, v6.set c (g v6 c + g v6 d) = w := ⟨_, rfl⟩
  have e7 : v7.length = 16 := by rw [← h7, List.length_set]; exact e6
  obtain ⟨v8, h8⟩ : ∃ w, v7.set b (rotr (g v7 b ^^^ g v7 c) 7) = w := ⟨_, rfl⟩
  have e8 : v8.length = 16 := by rw [← h8, List.length_set]; exact e7
  have hm : mixS v a b c d x y = v8 := by unfold mixS; simp only [h1, h2, h3, h4, h5, h6, h7, h8]
  rw [hm]
  refine ecalls k_mix ?_
  simp [c_mix, NV, WV, VO, hv, e1, e2, e3, e4, e5, e6, e7, e8, ha, hb, hc, hd, ia, ib, ic, id', xa, xb, xc, xd, wl_gE, wl_put, la, lb, lc, ld, wi_add, wi_xor, h1, h2, h3, h4, h5, h6, h7, h8]
  refine call0 (Rot16_ok (g v1 d ^^^ g v1 a)) (by simp [WV, NV]) ?_
  rintro y' H' ⟨rfl, rfl⟩
  refine ⟨.inl (by simp), le_ok rfl, ?_⟩
  simp [NV, WV, VO, hv, e1, e2, e3, e4, e5, e6, e7, e8, ha, hb, hc, hd, ia, ib, ic, id', xa, xb, xc, xd, wl_gE, wl_put, la, lb, lc, ld, wi_add, wi_xor, h1, h2, h3, h4, h5, h6, h7, h8]
  refine call0 (Rot12_ok (g v3 b ^^^ g v3 c)) (by simp [WV, NV]) ?_
  rintro y' H' ⟨rfl, rfl⟩
  refine ⟨.inl (by simp), le_ok rfl, ?_⟩
  simp [NV, WV, VO, hv, e1, e2, e3, e4, e5, e6, e7, e8, ha, hb, hc, hd, ia, ib, ic, id', xa, xb, xc, xd, wl_gE, wl_put, la, lb, lc, ld, wi_add, wi_xor, h1, h2, h3, h4, h5, h6, h7, h8]
  refine call0 (Rot8_ok (g v5 d ^^^ g v5 a)) (by simp [WV, NV]) ?_
  rintro y' H' ⟨rfl, rfl⟩
  refine ⟨.inl (by simp), le_ok rfl, ?_⟩
  simp [NV, WV, VO, hv, e1, e2, e3, e4, e5, e6, e7, e8, ha, hb, hc, hd, ia, ib, ic, id', xa, xb, xc, xd, wl_gE, wl_put, la, lb, lc, ld, wi_add, wi_xor, h1, h2, h3, h4, h5, h6, h7, h8]
  refine call0 (Rot7_ok (g v7 b ^^^ g v7 c)) (by simp [WV, NV]) ?_
  rintro y' H' ⟨rfl, rfl⟩
  refine ⟨.inl (by simp), le_ok rfl, ?_⟩
  simp [NV, WV, VO, hv, e1, e2, e3, e4, e5, e6, e7, e8, ha, hb, hc, hd, ia, ib, ic, id', xa, xb, xc, xd, wl_gE, wl_put, la, lb, lc, ld, wi_add, wi_xor, h1, h2, h3, h4, h5, h6, h7, h8]
  exact fin [] (by decide) rfl rfl (by simp [objsOut]) ⟨rfl, rfl⟩
end Go.Proofs.YtflcfdeanneoeaaGreatDoor
