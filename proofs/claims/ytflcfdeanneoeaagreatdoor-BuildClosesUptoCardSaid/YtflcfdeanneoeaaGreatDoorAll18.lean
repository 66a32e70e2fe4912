import Derived.Test.YtflcfdeanneoeaaGreatDoorAll17
import Derived.Test.YtflcfdeanneoeaaGreatDoorAll10
import Derived.Test.YtflcfdeanneoeaaGreatDoorAll13
namespace Go.Proofs.YtflcfdeanneoeaaGreatDoor
open Go Go.EW
set_option linter.unusedSimpArgs false
set_option linter.unusedVariables false
@[simp] def l_TPut_1 (_ : Unit) : List EOp := [xQ 0 2 (.box 63 (.t 0)), xQ 1 4 (.mov (.k (.slice none 0 0)))]
@[simp] def b_TPut_2 (_ : Unit) : EB := reg0 (hid l_TPut_1) 2
@[simp] def l_TPut_4 (_ : Unit) : List EOp := [xQ 8 19 (.cnv .u64 (.t 18)), ⟨0, (some 11), none, (.call 126 []), [1, 2, 3, 5, 6, 7, 8]⟩, ⟨4, (some 15), none, (.call 127 [(.t 11), (.t 14)]), [5, 6, 7, 8]⟩, xO 9 20 (.call 127 [(.t 15), (.t 19)]), xM 10 5 20]
@[simp] def l_TPut_3 (_ : Unit) : List EOp := xQ 1 12 (.fad 0 (.t 2)) :: xQ 2 13 (.ldc (.t 12)) :: xQ 3 14 (.cnv .u64 (.t 13)) :: xQ 5 16 (.fad 1 (.t 2)) :: xQ 6 17 (.ldc (.t 16)) :: xQ 7 18 (.len (.t 17)) :: hid l_TPut_4
@[simp] def b_TPut_5 (_ : Unit) : EB := reg1 (hid l_TPut_3) 11
@[simp] def l_TPut_6 (_ : Unit) : List EOp := [xQ 0 21 (.fad 1 (.t 2)), xQ 1 22 (.ldc (.t 21)), xQ 2 23 (.len (.t 22)), xQ 3 24 (.mov (.k (.int .i64 0)))]
@[simp] def b_TPut_7 (_ : Unit) : EB := reg0 (hid l_TPut_6) 4
@[simp] def l_TPut_8 (_ : Unit) : List EOp := [xQ 0 25 (.bin .lss (.t 24) (.t 23))]
@[simp] def b_TPut_9 (_ : Unit) : EB := reg0 (hid l_TPut_8) 1
@[simp] def b_TPut_10 (_ : Unit) : EB := .cond (.t 25) .skip (.exit 0)
@[simp] def l_TPut_11 (_ : Unit) : List EOp := [xQ 0 26 (.isl 35 (.t 22) (.t 24)), xQ 1 27 (.lda 35 (.t 26)), xQ 2 7 (.alloc 135 (zU8 ++ [(.int .i64 0), (.int .i64 0), (.slice none 0 0)])), xN 3 (.fz (.sto 35 (.t 7) (.t 27)))]
@[simp] def b_TPut_12 (_ : Unit) : EB := reg0 (hid l_TPut_11) 4
@[simp] def l_TPut_15 (_ : Unit) : List EOp := [xQ 15 43 (.lda 35 (.t 7)), ⟨4, (some 32), none, (.call 128 [(.t 28), (.t 31)]), [5, 6, 7, 8, 10, 11, 12, 14, 15]⟩, ⟨9, (some 37), none, (.call 127 [(.t 32), (.t 36)]), [10, 11, 12, 14, 15]⟩, ⟨13, (some 41), none, (.call 127 [(.t 37), (.t 40)]), [14, 15]⟩, xO 16 44 (.clo (.t 42) [(.t 43)]), xO 17 45 (.call 129 [(.t 41), (.t 44)])]
@[simp] def l_TPut_14 (_ : Unit) : List EOp := xQ 7 35 (.ldc (.t 34)) :: xQ 8 36 (.cnv .u64 (.t 35)) :: xQ 10 38 (.fad 33 (.t 7)) :: xQ 11 39 (.ldc (.t 38)) :: xQ 12 40 (.cnv .u64 (.t 39)) :: xM 14 42 1 :: hid l_TPut_15
@[simp] def l_TPut_13 (_ : Unit) : List EOp := xM 0 28 5 :: xQ 1 29 (.fad 0 (.t 7)) :: xQ 2 30 (.fad 0 (.t 29)) :: xQ 3 31 (.lda 32 (.t 30)) :: xQ 5 33 (.fad 0 (.t 7)) :: xQ 6 34 (.fad 32 (.t 33)) :: hid l_TPut_14
@[simp] def b_TPut_16 (_ : Unit) : EB := reg1 (hid l_TPut_13) 18
@[simp] def b_TPut_17 (_ : Unit) : EB := .seq (hid b_TPut_12) (hid b_TPut_16)
@[simp] def b_TPut_18 (_ : Unit) : EB := .block 1 (hid b_TPut_17)
@[simp] def l_TPut_19 (_ : Unit) : List EOp := [xQ 0 46 (.bin .add (.t 24) (.k (.int .i64 1))), xM 1 24 46]
@[simp] def b_TPut_20 (_ : Unit) : EB := reg0 (hid l_TPut_19) 2
@[simp] def b_TPut_21 (_ : Unit) : EB := .seq (hid b_TPut_18) (hid b_TPut_20)
@[simp] def b_TPut_22 (_ : Unit) : EB := .seq (hid b_TPut_10) (hid b_TPut_21)
@[simp] def b_TPut_23 (_ : Unit) : EB := .seq (hid b_TPut_9) (hid b_TPut_22)
@[simp] def b_TPut_24 (_ : Unit) : EB := .loop (hid b_TPut_23)
@[simp] def b_TPut_25 (_ : Unit) : EB := .block 0 (hid b_TPut_24)
@[simp] def b_TPut_26 (_ : Unit) : EB := .seq (hid b_TPut_7) (hid b_TPut_25)
@[simp] def l_TPut_28 (_ : Unit) : List EOp := [xO 6 53 (.call 130 [(.t 52)]), xM 7 8 53]
@[simp] def l_TPut_27 (_ : Unit) : List EOp := xM 0 47 5 :: xQ 1 48 (.fad 2 (.t 2)) :: xQ 2 49 (.ldc (.t 48)) :: xQ 3 50 (.len (.t 49)) :: xQ 4 51 (.cnv .u64 (.t 50)) :: xO 5 52 (.call 127 [(.t 47), (.t 51)]) :: hid l_TPut_28
@[simp] def b_TPut_29 (_ : Unit) : EB := reg0 (hid l_TPut_27) 8
@[simp] def l_TPut_30 (_ : Unit) : List EOp := [xQ 0 54 (.fad 2 (.t 2)), xQ 1 55 (.ldc (.t 54)), xQ 2 56 (.len (.t 55)), xQ 3 57 (.mov (.k (.int .i64 0)))]
@[simp] def b_TPut_31 (_ : Unit) : EB := reg0 (hid l_TPut_30) 4
@[simp] def l_TPut_32 (_ : Unit) : List EOp := [xQ 0 58 (.bin .lss (.t 57) (.t 56))]
@[simp] def b_TPut_33 (_ : Unit) : EB := reg0 (hid l_TPut_32) 1
@[simp] def b_TPut_34 (_ : Unit) : EB := .cond (.t 58) .skip (.exit 2)
@[simp] def l_TPut_35 (_ : Unit) : List EOp := [xQ 0 59 (.isl 2 (.t 55) (.t 57)), xQ 1 60 (.lda 2 (.t 59)), xQ 2 10 (.alloc 118 [(.int .i64 0), (.slice none 0 0)]), xN 3 (.fz (.sto 2 (.t 10) (.t 60)))]
@[simp] def b_TPut_36 (_ : Unit) : EB := reg0 (hid l_TPut_35) 4
@[simp] def l_TPut_38 (_ : Unit) : List EOp := [⟨1, (some 62), none, (.call 126 []), [0, 2, 3, 4, 8, 9]⟩, ⟨5, (some 66), none, (.call 127 [(.t 62), (.t 65)]), [0, 8, 9]⟩, ⟨6, (some 67), none, (.call 130 [(.t 66)]), [0, 8, 9]⟩, ⟨7, (some 68), none, (.app 5 1 1 (.t 61) (.t 67)), [8, 9]⟩, xO 10 71 (.call 131 [(.t 68), (.t 70)]), xM 11 8 71]
@[simp] def l_TPut_37 (_ : Unit) : List EOp := xM 0 61 8 :: xQ 2 63 (.fad 0 (.t 10)) :: xQ 3 64 (.ldc (.t 63)) :: xQ 4 65 (.cnv .u64 (.t 64)) :: xQ 8 69 (.fad 1 (.t 10)) :: xQ 9 70 (.lda 1 (.t 69)) :: hid l_TPut_38
@[simp] def b_TPut_39 (_ : Unit) : EB := reg1 (hid l_TPut_37) 12
@[simp] def b_TPut_40 (_ : Unit) : EB := .seq (hid b_TPut_36) (hid b_TPut_39)
@[simp] def b_TPut_41 (_ : Unit) : EB := .block 3 (hid b_TPut_40)
@[simp] def l_TPut_42 (_ : Unit) : List EOp := [xQ 0 72 (.bin .add (.t 57) (.k (.int .i64 1))), xM 1 57 72]
@[simp] def b_TPut_43 (_ : Unit) : EB := reg0 (hid l_TPut_42) 2
@[simp] def b_TPut_44 (_ : Unit) : EB := .seq (hid b_TPut_41) (hid b_TPut_43)
@[simp] def b_TPut_45 (_ : Unit) : EB := .seq (hid b_TPut_34) (hid b_TPut_44)
@[simp] def b_TPut_46 (_ : Unit) : EB := .seq (hid b_TPut_33) (hid b_TPut_45)
@[simp] def b_TPut_47 (_ : Unit) : EB := .loop (hid b_TPut_46)
@[simp] def b_TPut_48 (_ : Unit) : EB := .block 2 (hid b_TPut_47)
@[simp] def b_TPut_49 (_ : Unit) : EB := .seq (hid b_TPut_31) (hid b_TPut_48)
@[simp] def l_TPut_50 (_ : Unit) : List EOp := [xM 0 73 8, xM 1 4 73]
@[simp] def b_TPut_51 (_ : Unit) : EB := reg0 (hid l_TPut_50) 2
@[simp] def b_TPut_52 (_ : Unit) : EB := .seq (hid b_TPut_51) .ret
@[simp] def b_TPut_53 (_ : Unit) : EB := .seq (hid b_TPut_49) (hid b_TPut_52)
@[simp] def b_TPut_54 (_ : Unit) : EB := .seq (hid b_TPut_29) (hid b_TPut_53)
@[simp] def b_TPut_55 (_ : Unit) : EB := .seq (hid b_TPut_26) (hid b_TPut_54)
@[simp] def b_TPut_56 (_ : Unit) : EB := .seq (hid b_TPut_5) (hid b_TPut_55)
@[simp] def b_TPut_57 (_ : Unit) : EB := .seq (hid b_TPut_2) (hid b_TPut_56)
def c_TPut : EB × List QOp × Nat := ((hid b_TPut_57), [(.mov (.t 4))], 74)
theorem k_TPut : cfun Tryz.prog 76 = some c_TPut := by kernel_rfl
@[simp] def l_TEncode_1 (_ : Unit) : List EOp := [xQ 0 1 (.box 63 (.t 0)), xQ 1 2 (.mov (.k (.slice none 0 0)))]
@[simp] def b_TEncode_2 (_ : Unit) : EB := reg0 (hid l_TEncode_1) 2
@[simp] def l_TEncode_3 (_ : Unit) : List EOp := [xQ 0 3 (.lda 3 (.t 1)), xO 1 4 (.call 76 [(.t 3), (.k (.func (.func 98) #[] #[]))]), xM 2 2 4]
@[simp] def b_TEncode_4 (_ : Unit) : EB := reg0 (hid l_TEncode_3) 3
@[simp] def b_TEncode_5 (_ : Unit) : EB := .seq (hid b_TEncode_4) .ret
@[simp] def b_TEncode_6 (_ : Unit) : EB := .seq (hid b_TEncode_2) (hid b_TEncode_5)
def c_TEncode : EB × List QOp × Nat := ((hid b_TEncode_6), [(.mov (.t 2))], 5)
theorem k_TEncode : cfun Tryz.prog 54 = some c_TEncode := by kernel_rfl
@[simp] def l_InShown_1 (_ : Unit) : List EOp := [xQ 0 1 (.box 135 (.t 0)), xQ 1 2 (.mov (.k (.slice none 0 0)))]
@[simp] def b_InShown_2 (_ : Unit) : EB := reg0 (hid l_InShown_1) 2
@[simp] def l_InShown_3 (_ : Unit) : List EOp := [xQ 0 3 (.fad 34 (.t 1)), xQ 1 4 (.ldc (.t 3)), xM 2 2 4]
@[simp] def b_InShown_4 (_ : Unit) : EB := reg0 (hid l_InShown_3) 3
@[simp] def b_InShown_5 (_ : Unit) : EB := .seq (hid b_InShown_4) .ret
@[simp] def b_InShown_6 (_ : Unit) : EB := .seq (hid b_InShown_2) (hid b_InShown_5)
def c_InShown : EB × List QOp × Nat := ((hid b_InShown_6), [(.mov (.t 2))], 5)
theorem k_InShown : cfun Tryz.prog 98 = some c_InShown := by kernel_rfl
def inpB (x : Inp) : List UInt8 := x.tx ++ (uB x.n ++ (uB x.br ++ bytesB x.sec))
def oupB (o : Outp) : List UInt8 := uB o.am ++ cndB o.cs
def insB (l : List Inp) : List UInt8 := l.flatMap inpB
def ousB (l : List Outp) : List UInt8 := l.flatMap oupB
def hdB (t : Txn) : List UInt8 := uB t.lk ++ uB (t.ins.length : Int)
def mdB (t : Txn) : List UInt8 := hdB t ++ insB t.ins ++ uB (t.outs.length : Int)
def encT (t : Txn) : List UInt8 := mdB t ++ ousB t.outs
theorem insB_snoc (l : List Inp) (x : Inp) : insB (l ++ [x]) = insB l ++ inpB x := by simp [insB]
theorem ousB_snoc (l : List Outp) (x : Outp) : ousB (l ++ [x]) = ousB l ++ oupB x := by simp [ousB]
def INL (l : List Inp) : EV := .v (.c (.fz (.sl 35 (inpv l))))
def OUL (l : List Outp) : EV := .v (.c (.fz (.sl 2 (outv l))))
theorem InShown_body : bodyOK Tryz.prog 98 = true := by kernel_rfl
set_option maxHeartbeats 2000000 in
theorem InShown_ok (x : Inp) (h : x.ok) : ECalls Tryz.prog 98 [.v (.agg (inpC x))] [] fun y H' => H' = [] ∧ y = Bs x.sec := by
  obtain ⟨h1, _, _, h4⟩ := h
  have l0 := ic_len h1
  have e34 := idx_of (ic_34 h1) (by omega)
  refine ecalls k_InShown ?_
  simp [c_InShown, l0, e34]
  exact fin [] (by decide) rfl rfl rfl ⟨rfl, rfl⟩
theorem drop35h (a b c : EC) : List.drop 35 (hc hz ++ [a, b, c]) = [] := by rw [List.drop_eq_nil_iff]; simp [hz]
set_option maxHeartbeats 16000000 in
theorem TPut_ok (t : Txn) (ht : t.ok) (hsec : ∀ x ∈ t.ins, x.sec.length ≤ 10000000) (hs : (encT t).length ≤ 400000000) : ECalls Tryz.prog 76 [TXv t, .v (.c (.clo 98 []))] [] fun y H' => H' = [] ∧ y = Bs (encT t) := by
  obtain ⟨t1, t2, t3, t4, t5⟩ := id ht
  have hlen : (encT t).length = (uB t.lk).length + (uB (t.ins.length : Int)).length + (insB t.ins).length + (uB (t.outs.length : Int)).length + (ousB t.outs).length := by simp [encT, mdB, hdB]; try omega
  refine ecalls k_TPut ?_
  simp [c_TPut, TXv, txC, iC]
  refine call0 New_ok rfl ?_
  rintro y H' ⟨rfl, rfl⟩
  refine ⟨.inl rfl, le_ok rfl, ?_⟩
  simp [Ptr, WO, RO, wrap_u64n]
  refine callH [32, 33] (WUint_ok [] (u64n t.lk) (u64n_lt _) (by simp)) (by simp [Ptr, I]) (by simp [WO, RO]) (by simp) (by simp) (by simp) ?_
  rintro y H' ⟨rfl, rfl⟩
  refine ⟨.inl (by simp), le_ok rfl, ?_⟩
  simp only [uB_eq, List.nil_append]
  simp [WO, RO, Ptr, wrap_u64n]
  refine callH [32, 96] (WUint_ok (uB t.lk) (u64n (t.ins.length : Int)) (u64n_lt _) (by omega)) (by simp [Ptr, I]) (by simp [WO, RO]) (by simp) (by simp) (by simp) ?_
  rintro y H' ⟨rfl, rfl⟩
  refine ⟨.inl (by simp), le_ok rfl, ?_⟩
  obtain ⟨F, hF⟩ : ∃ F : Nat → List UInt8, F = fun i => hdB t ++ insB (t.ins.take i) := ⟨_, rfl⟩
  have hF0 : uB t.lk ++ uB (t.ins.length : Int) = F 0 := by rw [hF]; simp [insB, hdB]
  have hFl : ∀ i, (F i).length ≤ 400000000 := by
    intro i
    have hfl := flat_take inpB t.ins i
    rw [hF]; simp only [List.length_append, hdB]; unfold insB at *; omega
  simp only [uB_eq, hF0]
  simp [WO, RO, Ptr]
  refine eloop (α := Nat) (fun i => i ≤ t.ins.length) (fun i => t.ins.length - i)
    (fun i => [.any, .v (.c (.clo 98 [])), Ptr 0, .any, .any, Ptr 1, .any, .any, .any, .any, .any, .any, .any, .any, .any, .any, .any, .any, .any, .any, .any, .any, INL t.ins, I .i64 t.ins.length, I .i64 i, .any, .any, .any, .any, .any, .any, .any, .any, .any, .any, .any, .any, .any, .any, .any, .any, .any, .any, .any, .any, .any, .any, .any, .any, .any, .any, .any, .any, .any, .any, .any, .any, .any, .any, .any, .any, .any, .any, .any, .any, .any, .any, .any, .any, .any, .any, .any, .any, .any]) (fun i => [some (.box 63 (txC t)), some (WO 2 (F i)), some (RO (F i))]) 0 [0, 32, 176]
    (Nat.zero_le _) (by simp [Ptr, I, INL]) (by simp [WO, RO, txC, iC]) (by simp) (by simp) (by simp) ?_
  intro i hi
  have hX := hFl i
  simp [Ptr, I, INL, WO, RO, txC, iC]
  refine alt (fun hlt => ?_) (fun hlt => ?_)
  · have hln : i < t.ins.length := by omega
    obtain ⟨x, hcx⟩ : ∃ x, t.ins[i]? = some x := ⟨t.ins[i], by simp [hln]⟩
    have hge : (inpv t.ins)[i]'(by simpa using hln) = inpF x := by
      have e := inpv_get hcx
      rw [List.getElem?_eq_getElem (by simpa using hln)] at e
      exact Option.some.inj e
    have hx := t2 x (List.mem_of_getElem? hcx)
    obtain ⟨x1, x2, x3, x4⟩ := id hx
    have x5 := hsec x (List.mem_of_getElem? hcx)
    have l0 := ic_len x1
    have f0 := if_len x1
    have tk := ic_take x1
    have th := ic_hash x1
    have e32 := idx_of (ic_32 x1) (by omega)
    have e33 := idx_of (ic_33 x1) (by omega)
    have w1 : IntKind.i64.wrap ((i : Int) + 1) = ((i + 1 : Nat) : Int) := wrap_i64 (by omega) (by omega)
    have hfs := flat_take_s inpB hcx
    have hbl : (inpB x).length = 32 + ((uB x.n).length + ((uB x.br).length + (bytesB x.sec).length)) := by simp [inpB, x1]
    have hXb : (F i).length + (inpB x).length ≤ 400000000 := by
      rw [hF]; simp only [List.length_append, hdB]; unfold insB at *; omega
    have hFs : F (i + 1) = F i ++ inpB x := by rw [hF]; simp [take_s hcx, insB_snoc]
    simp [hln, hge, inpF_fz, l0, f0, tk, th, e32, e33, wrap_u64n, drop35h, iC, WO, RO, Ptr]
    refine callH [1, 2] (WHash_ok (F i) x.tx (by omega) x1) (by simp [Ptr, Ag]) (by simp [WO, RO]) (by simp) (by simp) (by simp) ?_
    rintro y H' ⟨rfl, rfl⟩
    refine ⟨.inl (by simp), le_ok rfl, ?_⟩
    simp [hln, hge, inpF_fz, l0, f0, tk, th, e32, e33, wrap_u64n, drop35h, iC, WO, RO, Ptr]
    refine callH [1, 147] (WUint_ok (F i ++ x.tx) (u64n x.n) (u64n_lt _) (by simp; omega)) (by simp [Ptr, I]) (by simp [WO, RO]) (by simp) (by simp) (by simp) ?_
    rintro y H' ⟨rfl, rfl⟩
    refine ⟨.inl (by simp), le_ok rfl, ?_⟩
    simp only [uB_eq]
    simp [hln, hge, inpF_fz, l0, f0, tk, th, e32, e33, wrap_u64n, drop35h, iC, WO, RO, Ptr]
    refine callH [1, 227] (WUint_ok (F i ++ x.tx ++ uB x.n) (u64n x.br) (u64n_lt _) (by simp; omega)) (by simp [Ptr, I]) (by simp [WO, RO]) (by simp) (by simp) (by simp) ?_
    rintro y H' ⟨rfl, rfl⟩
    refine ⟨.inl (by simp), le_ok rfl, ?_⟩
    simp only [uB_eq]
    simp [hln, hge, inpF_fz, l0, f0, tk, th, e32, e33, wrap_u64n, drop35h, iC, WO, RO, Ptr]
    refine ⟨InShown_body, ?_⟩
    refine call0 (InShown_ok x hx) (by simp [hln, hge, inpF_fz, l0, f0, tk, th, e32, e33, wrap_u64n, drop35h, iC, WO, RO, Ptr]) ?_
    rintro y H' ⟨rfl, rfl⟩
    refine ⟨.inl (by simp [Bs]), le_ok rfl, ?_⟩
    simp [hln, hge, inpF_fz, l0, f0, tk, th, e32, e33, wrap_u64n, drop35h, iC, WO, RO, Ptr, Bs]
    refine callH [1, 291] (WBytes_ok (F i ++ x.tx ++ uB x.n ++ uB x.br) x.sec (by simp; omega) (by omega)) (by simp [Ptr, Bs]) (by simp [WO, RO]) (by simp) (by simp) (by simp) ?_
    rintro y H' ⟨rfl, rfl⟩
    refine ⟨.inl (by simp), le_ok rfl, ?_⟩
    have hGe : F i ++ x.tx ++ uB x.n ++ uB x.br ++ bytesB x.sec = F (i + 1) := by rw [hFs]; simp [inpB]
    simp only [hGe]
    simp [WO, RO, Ptr, w1, -Int.natCast_add]
    exact round (i + 1) [0, 1, 355] (by omega) (by omega) (by simp [Ptr, I, INL]) (by simp [WO, RO, txC, iC]) (by simp) (by simp) (by simp)
  have hil : i = t.ins.length := by omega
  subst hil
  have hFe : F t.ins.length = hdB t ++ insB t.ins := by rw [hF]; simp
  simp [wrap_u64n]
  refine callH [1, 2] (WUint_ok (F t.ins.length) (u64n (t.outs.length : Int)) (u64n_lt _) (by omega)) (by simp [Ptr, I]) (by simp [WO, RO]) (by simp) (by simp) (by simp) ?_
  rintro y H' ⟨rfl, rfl⟩
  refine ⟨.inl (by simp), le_ok rfl, ?_⟩
  obtain ⟨K, hK⟩ : ∃ K : Nat → List UInt8, K = fun i => mdB t ++ ousB (t.outs.take i) := ⟨_, rfl⟩
  have hK0 : F t.ins.length ++ uB (t.outs.length : Int) = K 0 := by rw [hK, hFe]; simp [ousB, mdB]
  have hKl : ∀ i, (K i).length ≤ 400000000 := by
    intro i
    have hfl := flat_take oupB t.outs i
    rw [hK]; simp only [List.length_append, hdB, mdB]; unfold ousB at *; omega
  simp only [uB_eq, hK0]
  simp [WO, RO, Ptr]
  have hK00 := hKl 0
  refine callH [1, 99] (WDone_ok (K 0) (by omega)) (by simp [Ptr]) (by simp [WO, RO]) (by simp) (by simp) (by simp) ?_
  rintro y H' ⟨rfl, rfl⟩
  refine ⟨.inl (by simp), le_ok rfl, ?_⟩
  simp [WO, RO, Ptr, R]
  refine eloop (α := Nat) (fun i => i ≤ t.outs.length) (fun i => t.outs.length - i)
    (fun i => [.any, .any, .any, .any, .any, .any, .any, .any, R 0 (K i), .any, .any, .any, .any, .any, .any, .any, .any, .any, .any, .any, .any, .any, .any, .any, .any, .any, .any, .any, .any, .any, .any, .any, .any, .any, .any, .any, .any, .any, .any, .any, .any, .any, .any, .any, .any, .any, .any, .any, .any, .any, .any, .any, .any, .any, .any, OUL t.outs, I .i64 t.outs.length, I .i64 i, .any, .any, .any, .any, .any, .any, .any, .any, .any, .any, .any, .any, .any, .any, .any, .any]) (fun i => [some (RO (K i))]) 0 [115]
    (Nat.zero_le _) (by simp [R, I, OUL]) (by simp [RO]) (by simp) (by simp) (by simp) ?_
  intro i hi
  have hX := hKl i
  simp [R, I, OUL, RO]
  refine alt (fun hlt => ?_) (fun hlt => ?_)
  · have hln : i < t.outs.length := by omega
    obtain ⟨x, hcx⟩ : ∃ x, t.outs[i]? = some x := ⟨t.outs[i], by simp [hln]⟩
    have hge : (outv t.outs)[i]'(by simpa using hln) = outF x := by
      have e := outv_get hcx
      rw [List.getElem?_eq_getElem (by simpa using hln)] at e
      exact Option.some.inj e
    obtain ⟨x1, x2, x3⟩ := t3 x (List.mem_of_getElem? hcx)
    have w1 : IntKind.i64.wrap ((i : Int) + 1) = ((i + 1 : Nat) : Int) := wrap_i64 (by omega) (by omega)
    have hfs := flat_take_s oupB hcx
    have hbl : (oupB x).length = (uB x.am).length + (cndB x.cs).length := by simp [oupB]
    have hXb : (K i).length + (oupB x).length ≤ 400000000 := by
      rw [hK]; simp only [List.length_append, hdB, mdB]; unfold ousB at *; omega
    have hKs : K (i + 1) = K i ++ oupB x := by rw [hK]; simp [take_s hcx, ousB_snoc]
    simp [hln, hge, outF, iF]
    refine call0 New_ok rfl ?_
    rintro y H' ⟨rfl, rfl⟩
    refine ⟨.inl rfl, le_ok rfl, ?_⟩
    simp [Ptr, WO, RO, wrap_u64n]
    refine callH [97, 98] (WUint_ok [] (u64n x.am) (u64n_lt _) (by simp)) (by simp [Ptr, I]) (by simp [WO, RO]) (by simp) (by simp) (by simp) ?_
    rintro y H' ⟨rfl, rfl⟩
    refine ⟨.inl (by simp), le_ok rfl, ?_⟩
    simp only [uB_eq, List.nil_append]
    simp [Ptr, WO, RO, wrap_u64n]
    have hua := uB_len x.am
    refine callH [97, 161] (WDone_ok (uB x.am) (by omega)) (by simp [Ptr]) (by simp [WO, RO]) (by simp) (by simp) (by simp) ?_
    rintro y H' ⟨rfl, rfl⟩
    refine ⟨.inl (by simp), le_ok rfl, ?_⟩
    simp [WO, RO, Ptr, R, bsv_app]
    refine ⟨⟨by omega, by omega⟩, ?_⟩
    refine call0 (CPut_ok (K i ++ uB x.am) x.cs x2 x3 (by simp; omega)) (by simp [CNv, Bs, List.take_of_length_le]) ?_
    rintro y H' ⟨rfl, rfl⟩
    refine ⟨.inr ⟨rfl, by simp [RO, bsv, cb]⟩, le_ok rfl, ?_⟩
    have hGe : K i ++ uB x.am ++ cndB x.cs = K (i + 1) := by rw [hKs]; simp [oupB]
    simp only [hGe]
    simp [R, RO, w1, -Int.natCast_add]
    exact round (i + 1) [241] (by omega) (by omega) (by simp [R, I, OUL]) (by simp [RO]) (by simp) (by simp) (by simp)
  have hil : i = t.outs.length := by omega
  subst hil
  have hKe : K t.outs.length = encT t := by rw [hK]; simp [encT]
  simp
  refine finW _ (weak_frz (o := 0) (ty := 5) (es := 1) (xs := bsv (K t.outs.length)) rfl) ?_
  exact fin [] (by decide) rfl rfl rfl ⟨rfl, by simp [Bs, hKe, List.take_of_length_le]⟩
set_option maxHeartbeats 4000000 in
theorem TEncode_ok (t : Txn) (ht : t.ok) (hsec : ∀ x ∈ t.ins, x.sec.length ≤ 10000000) (hs : (encT t).length ≤ 400000000) : ECalls Tryz.prog 54 [TXv t] [] fun y H' => H' = [] ∧ y = Bs (encT t) := by
  refine ecalls k_TEncode ?_
  simp [c_TEncode, TXv, txC, iC]
  refine call0 (TPut_ok t ht hsec hs) (by simp [TXv, txC, iC]) ?_
  rintro y H' ⟨rfl, rfl⟩
  refine ⟨.inl (by simp [Bs]), le_ok rfl, ?_⟩
  simp [Bs]
  exact fin [] (by decide) rfl rfl rfl ⟨rfl, rfl⟩
end Go.Proofs.YtflcfdeanneoeaaGreatDoor
namespace Go.Proofs.YtflcfdeanneoeaaGreatDoor
open Go Go.EW
set_option linter.unusedSimpArgs false
set_option linter.unusedVariables false
@[simp] def l_RCPut_1 (_ : Unit) : List EOp := [xQ 0 3 (.box 145 (.t 1)), xQ 1 4 (.mov (.k (.slice none 0 0)))]
@[simp] def b_RCPut_2 (_ : Unit) : EB := reg0 (hid l_RCPut_1) 2
@[simp] def l_RCPut_3 (_ : Unit) : List EOp := [xQ 0 5 (.mov (.k (.slice none 0 0)))]
@[simp] def b_RCPut_4 (_ : Unit) : EB := reg0 (hid l_RCPut_3) 1
@[simp] def l_RCPut_6 (_ : Unit) : List EOp := [⟨2, (some 11), none, (.app 5 1 1 (.t 9) (.t 10)), [3, 4, 5, 6]⟩, xO 7 16 (.call 147 [(.t 11), (.t 15)]), xM 8 5 16]
@[simp] def l_RCPut_5 (_ : Unit) : List EOp := xM 0 9 5 :: xM 1 10 0 :: xQ 3 12 (.fad 0 (.t 3)) :: xQ 4 13 (.ldc (.t 12)) :: xQ 5 14 (.len (.t 13)) :: xQ 6 15 (.cnv .u64 (.t 14)) :: hid l_RCPut_6
@[simp] def b_RCPut_7 (_ : Unit) : EB := reg1 (hid l_RCPut_5) 9
@[simp] def l_RCPut_8 (_ : Unit) : List EOp := [xQ 0 6 (.mov (.k (.int .i64 0)))]
@[simp] def b_RCPut_9 (_ : Unit) : EB := reg0 (hid l_RCPut_8) 1
@[simp] def l_RCPut_10 (_ : Unit) : List EOp := [xM 0 17 6, xQ 1 18 (.fad 0 (.t 3)), xQ 2 19 (.ldc (.t 18)), xQ 3 20 (.len (.t 19)), xQ 4 21 (.bin .lss (.t 17) (.t 20))]
@[simp] def b_RCPut_11 (_ : Unit) : EB := reg0 (hid l_RCPut_10) 5
@[simp] def b_RCPut_12 (_ : Unit) : EB := .cond (.t 21) .skip (.exit 0)
@[simp] def b_RCPut_13 (_ : Unit) : EB := .seq (hid b_RCPut_11) (hid b_RCPut_12)
@[simp] def l_RCPut_15 (_ : Unit) : List EOp := [xN 6 (.fz (.sto 35 (.t 7) (.t 28)))]
@[simp] def l_RCPut_14 (_ : Unit) : List EOp := xQ 0 24 (.fad 0 (.t 3)) :: xQ 1 25 (.ldc (.t 24)) :: xM 2 26 6 :: xQ 3 27 (.isl 35 (.t 25) (.t 26)) :: xQ 4 28 (.lda 35 (.t 27)) :: xQ 5 7 (.alloc 150 (([(.slice none 0 0)] : List Value) ++ zU8 ++ [(.int .i64 0), (.int .i64 0)])) :: hid l_RCPut_15
@[simp] def b_RCPut_16 (_ : Unit) : EB := reg0 (hid l_RCPut_14) 7
@[simp] def l_RCPut_18 (_ : Unit) : List EOp := [xM 6 5 34]
@[simp] def l_RCPut_17 (_ : Unit) : List EOp := xM 0 29 5 :: xQ 1 30 (.fad 0 (.t 7)) :: xQ 2 31 (.ldc (.t 30)) :: xQ 3 32 (.len (.t 31)) :: xQ 4 33 (.cnv .u64 (.t 32)) :: xO 5 34 (.call 147 [(.t 29), (.t 33)]) :: hid l_RCPut_18
@[simp] def b_RCPut_19 (_ : Unit) : EB := reg0 (hid l_RCPut_17) 7
@[simp] def l_RCPut_20 (_ : Unit) : List EOp := [xQ 0 8 (.mov (.k (.int .i64 0)))]
@[simp] def b_RCPut_21 (_ : Unit) : EB := reg0 (hid l_RCPut_20) 1
@[simp] def l_RCPut_22 (_ : Unit) : List EOp := [xM 0 35 8, xQ 1 36 (.fad 0 (.t 7)), xQ 2 37 (.ldc (.t 36)), xQ 3 38 (.len (.t 37)), xQ 4 39 (.bin .lss (.t 35) (.t 38))]
@[simp] def b_RCPut_23 (_ : Unit) : EB := reg0 (hid l_RCPut_22) 5
@[simp] def b_RCPut_24 (_ : Unit) : EB := .cond (.t 39) .skip (.exit 2)
@[simp] def b_RCPut_25 (_ : Unit) : EB := .seq (hid b_RCPut_23) (hid b_RCPut_24)
@[simp] def l_RCPut_27 (_ : Unit) : List EOp := [xQ 6 48 (.cnv .u64 (.t 47)), xO 7 49 (.call 147 [(.t 42), (.t 48)]), xM 8 5 49]
@[simp] def l_RCPut_26 (_ : Unit) : List EOp := xM 0 42 5 :: xQ 1 43 (.fad 0 (.t 7)) :: xQ 2 44 (.ldc (.t 43)) :: xM 3 45 8 :: xQ 4 46 (.isl 1 (.t 44) (.t 45)) :: xQ 5 47 (.ldc (.t 46)) :: hid l_RCPut_27
@[simp] def b_RCPut_28 (_ : Unit) : EB := reg0 (hid l_RCPut_26) 9
@[simp] def b_RCPut_29 (_ : Unit) : EB := .block 3 (hid b_RCPut_28)
@[simp] def l_RCPut_30 (_ : Unit) : List EOp := [xM 0 40 8, xQ 1 41 (.bin .add (.t 40) (.k (.int .i64 1))), xM 2 8 41]
@[simp] def b_RCPut_31 (_ : Unit) : EB := reg0 (hid l_RCPut_30) 3
@[simp] def b_RCPut_32 (_ : Unit) : EB := .seq (hid b_RCPut_29) (hid b_RCPut_31)
@[simp] def b_RCPut_33 (_ : Unit) : EB := .seq (hid b_RCPut_25) (hid b_RCPut_32)
@[simp] def b_RCPut_34 (_ : Unit) : EB := .loop (hid b_RCPut_33)
@[simp] def b_RCPut_35 (_ : Unit) : EB := .block 2 (hid b_RCPut_34)
@[simp] def b_RCPut_36 (_ : Unit) : EB := .seq (hid b_RCPut_21) (hid b_RCPut_35)
@[simp] def l_RCPut_39 (_ : Unit) : List EOp := [xM 12 5 61]
@[simp] def l_RCPut_38 (_ : Unit) : List EOp := xQ 8 58 (.fad 34 (.t 7)) :: xQ 9 59 (.ldc (.t 58)) :: xQ 10 60 (.cnv .u64 (.t 59)) :: ⟨3, (some 53), none, (.call 148 [(.t 50), (.t 52)]), [4, 5, 6, 8, 9, 10]⟩ :: ⟨7, (some 57), none, (.call 147 [(.t 53), (.t 56)]), [8, 9, 10]⟩ :: xO 11 61 (.call 147 [(.t 57), (.t 60)]) :: hid l_RCPut_39
@[simp] def l_RCPut_37 (_ : Unit) : List EOp := xM 0 50 5 :: xQ 1 51 (.fad 1 (.t 7)) :: xQ 2 52 (.lda 32 (.t 51)) :: xQ 4 54 (.fad 33 (.t 7)) :: xQ 5 55 (.ldc (.t 54)) :: xQ 6 56 (.cnv .u64 (.t 55)) :: hid l_RCPut_38
@[simp] def b_RCPut_40 (_ : Unit) : EB := reg1 (hid l_RCPut_37) 13
@[simp] def b_RCPut_41 (_ : Unit) : EB := .seq (hid b_RCPut_36) (hid b_RCPut_40)
@[simp] def b_RCPut_42 (_ : Unit) : EB := .seq (hid b_RCPut_19) (hid b_RCPut_41)
@[simp] def b_RCPut_43 (_ : Unit) : EB := .seq (hid b_RCPut_16) (hid b_RCPut_42)
@[simp] def b_RCPut_44 (_ : Unit) : EB := .block 1 (hid b_RCPut_43)
@[simp] def l_RCPut_45 (_ : Unit) : List EOp := [xM 0 22 6, xQ 1 23 (.bin .add (.t 22) (.k (.int .i64 1))), xM 2 6 23]
@[simp] def b_RCPut_46 (_ : Unit) : EB := reg0 (hid l_RCPut_45) 3
@[simp] def b_RCPut_47 (_ : Unit) : EB := .seq (hid b_RCPut_44) (hid b_RCPut_46)
@[simp] def b_RCPut_48 (_ : Unit) : EB := .seq (hid b_RCPut_13) (hid b_RCPut_47)
@[simp] def b_RCPut_49 (_ : Unit) : EB := .loop (hid b_RCPut_48)
@[simp] def b_RCPut_50 (_ : Unit) : EB := .block 0 (hid b_RCPut_49)
@[simp] def b_RCPut_51 (_ : Unit) : EB := .seq (hid b_RCPut_9) (hid b_RCPut_50)
@[simp] def l_RCPut_52 (_ : Unit) : List EOp := [xM 0 62 5, xM 1 4 62]
@[simp] def b_RCPut_53 (_ : Unit) : EB := reg0 (hid l_RCPut_52) 2
@[simp] def b_RCPut_54 (_ : Unit) : EB := .seq (hid b_RCPut_53) .ret
@[simp] def b_RCPut_55 (_ : Unit) : EB := .seq (hid b_RCPut_51) (hid b_RCPut_54)
@[simp] def b_RCPut_56 (_ : Unit) : EB := .seq (hid b_RCPut_7) (hid b_RCPut_55)
@[simp] def b_RCPut_57 (_ : Unit) : EB := .seq (hid b_RCPut_4) (hid b_RCPut_56)
@[simp] def b_RCPut_58 (_ : Unit) : EB := .seq (hid b_RCPut_2) (hid b_RCPut_57)
def c_RCPut : EB × List QOp × Nat := ((hid b_RCPut_58), [(.mov (.t 4))], 63)
theorem k_RCPut : cfun Tryz.prog 150 = some c_RCPut := by kernel_rfl
@[simp] def l_RTPut_1 (_ : Unit) : List EOp := [xQ 0 2 (.box 69 (.t 0)), xQ 1 4 (.mov (.k (.slice none 0 0)))]
@[simp] def b_RTPut_2 (_ : Unit) : EB := reg0 (hid l_RTPut_1) 2
@[simp] def l_RTPut_4 (_ : Unit) : List EOp := [xQ 7 16 (.cnv .u64 (.t 15)), ⟨3, (some 12), none, (.call 147 [(.k (.slice none 0 0)), (.t 11)]), [4, 5, 6, 7]⟩, xO 8 17 (.call 147 [(.t 12), (.t 16)]), xM 9 5 17]
@[simp] def l_RTPut_3 (_ : Unit) : List EOp := xQ 0 9 (.fad 0 (.t 2)) :: xQ 1 10 (.ldc (.t 9)) :: xQ 2 11 (.cnv .u64 (.t 10)) :: xQ 4 13 (.fad 1 (.t 2)) :: xQ 5 14 (.ldc (.t 13)) :: xQ 6 15 (.len (.t 14)) :: hid l_RTPut_4
@[simp] def b_RTPut_5 (_ : Unit) : EB := reg1 (hid l_RTPut_3) 10
@[simp] def l_RTPut_6 (_ : Unit) : List EOp := [xQ 0 6 (.mov (.k (.int .i64 0)))]
@[simp] def b_RTPut_7 (_ : Unit) : EB := reg0 (hid l_RTPut_6) 1
@[simp] def l_RTPut_8 (_ : Unit) : List EOp := [xM 0 18 6, xQ 1 19 (.fad 1 (.t 2)), xQ 2 20 (.ldc (.t 19)), xQ 3 21 (.len (.t 20)), xQ 4 22 (.bin .lss (.t 18) (.t 21))]
@[simp] def b_RTPut_9 (_ : Unit) : EB := reg0 (hid l_RTPut_8) 5
@[simp] def b_RTPut_10 (_ : Unit) : EB := .cond (.t 22) .skip (.exit 0)
@[simp] def b_RTPut_11 (_ : Unit) : EB := .seq (hid b_RTPut_9) (hid b_RTPut_10)
@[simp] def l_RTPut_13 (_ : Unit) : List EOp := [xN 6 (.fz (.sto 35 (.t 7) (.t 29)))]
@[simp] def l_RTPut_12 (_ : Unit) : List EOp := xQ 0 25 (.fad 1 (.t 2)) :: xQ 1 26 (.ldc (.t 25)) :: xM 2 27 6 :: xQ 3 28 (.isl 35 (.t 26) (.t 27)) :: xQ 4 29 (.lda 35 (.t 28)) :: xQ 5 7 (.alloc 83 (zU8 ++ [(.int .i64 0), (.int .i64 0), (.slice none 0 0)])) :: hid l_RTPut_13
@[simp] def b_RTPut_14 (_ : Unit) : EB := reg0 (hid l_RTPut_12) 7
@[simp] def l_RTPut_17 (_ : Unit) : List EOp := [⟨9, (some 39), none, (.call 147 [(.t 34), (.t 38)]), [10, 11, 12]⟩, xO 13 43 (.call 147 [(.t 39), (.t 42)]), xM 14 5 43]
@[simp] def l_RTPut_16 (_ : Unit) : List EOp := xQ 7 37 (.ldc (.t 36)) :: xQ 8 38 (.cnv .u64 (.t 37)) :: xQ 10 40 (.fad 33 (.t 7)) :: xQ 11 41 (.ldc (.t 40)) :: xQ 12 42 (.cnv .u64 (.t 41)) :: ⟨4, (some 34), none, (.call 148 [(.t 30), (.t 33)]), [5, 6, 7, 8, 10, 11, 12]⟩ :: hid l_RTPut_17
@[simp] def l_RTPut_15 (_ : Unit) : List EOp := xM 0 30 5 :: xQ 1 31 (.fad 0 (.t 7)) :: xQ 2 32 (.fad 0 (.t 31)) :: xQ 3 33 (.lda 32 (.t 32)) :: xQ 5 35 (.fad 0 (.t 7)) :: xQ 6 36 (.fad 32 (.t 35)) :: hid l_RTPut_16
@[simp] def b_RTPut_18 (_ : Unit) : EB := reg1 (hid l_RTPut_15) 15
@[simp] def l_RTPut_19 (_ : Unit) : List EOp := [xM 0 44 1]
@[simp] def b_RTPut_20 (_ : Unit) : EB := reg0 (hid l_RTPut_19) 1
@[simp] def l_RTPut_21 (_ : Unit) : List EOp := [xM 0 45 5, xQ 1 46 (.fad 34 (.t 7)), xQ 2 47 (.ldc (.t 46)), xO 3 48 (.call 149 [(.t 45), (.t 47)]), xM 4 5 48]
@[simp] def b_RTPut_22 (_ : Unit) : EB := reg0 (hid l_RTPut_21) 5
@[simp] def l_RTPut_23 (_ : Unit) : List EOp := [xM 0 49 5, xO 1 50 (.call 149 [(.t 49), (.k (.slice none 0 0))]), xM 2 5 50]
@[simp] def b_RTPut_24 (_ : Unit) : EB := reg0 (hid l_RTPut_23) 3
@[simp] def b_RTPut_25 (_ : Unit) : EB := .cond (.t 44) (hid b_RTPut_22) (hid b_RTPut_24)
@[simp] def b_RTPut_26 (_ : Unit) : EB := .seq (hid b_RTPut_20) (hid b_RTPut_25)
@[simp] def b_RTPut_27 (_ : Unit) : EB := .seq (hid b_RTPut_18) (hid b_RTPut_26)
@[simp] def b_RTPut_28 (_ : Unit) : EB := .seq (hid b_RTPut_14) (hid b_RTPut_27)
@[simp] def b_RTPut_29 (_ : Unit) : EB := .block 1 (hid b_RTPut_28)
@[simp] def l_RTPut_30 (_ : Unit) : List EOp := [xM 0 23 6, xQ 1 24 (.bin .add (.t 23) (.k (.int .i64 1))), xM 2 6 24]
@[simp] def b_RTPut_31 (_ : Unit) : EB := reg0 (hid l_RTPut_30) 3
@[simp] def b_RTPut_32 (_ : Unit) : EB := .seq (hid b_RTPut_29) (hid b_RTPut_31)
@[simp] def b_RTPut_33 (_ : Unit) : EB := .seq (hid b_RTPut_11) (hid b_RTPut_32)
@[simp] def b_RTPut_34 (_ : Unit) : EB := .loop (hid b_RTPut_33)
@[simp] def b_RTPut_35 (_ : Unit) : EB := .block 0 (hid b_RTPut_34)
@[simp] def b_RTPut_36 (_ : Unit) : EB := .seq (hid b_RTPut_7) (hid b_RTPut_35)
@[simp] def l_RTPut_38 (_ : Unit) : List EOp := [xM 6 5 56]
@[simp] def l_RTPut_37 (_ : Unit) : List EOp := xM 0 51 5 :: xQ 1 52 (.fad 2 (.t 2)) :: xQ 2 53 (.ldc (.t 52)) :: xQ 3 54 (.len (.t 53)) :: xQ 4 55 (.cnv .u64 (.t 54)) :: xO 5 56 (.call 147 [(.t 51), (.t 55)]) :: hid l_RTPut_38
@[simp] def b_RTPut_39 (_ : Unit) : EB := reg0 (hid l_RTPut_37) 7
@[simp] def l_RTPut_40 (_ : Unit) : List EOp := [xQ 0 8 (.mov (.k (.int .i64 0)))]
@[simp] def b_RTPut_41 (_ : Unit) : EB := reg0 (hid l_RTPut_40) 1
@[simp] def l_RTPut_42 (_ : Unit) : List EOp := [xM 0 57 8, xQ 1 58 (.fad 2 (.t 2)), xQ 2 59 (.ldc (.t 58)), xQ 3 60 (.len (.t 59)), xQ 4 61 (.bin .lss (.t 57) (.t 60))]
@[simp] def b_RTPut_43 (_ : Unit) : EB := reg0 (hid l_RTPut_42) 5
@[simp] def b_RTPut_44 (_ : Unit) : EB := .cond (.t 61) .skip (.exit 2)
@[simp] def b_RTPut_45 (_ : Unit) : EB := .seq (hid b_RTPut_43) (hid b_RTPut_44)
@[simp] def l_RTPut_48 (_ : Unit) : List EOp := [xQ 13 77 (.fad 1 (.t 76)), xQ 14 78 (.lda 1 (.t 77)), ⟨8, (some 72), none, (.call 147 [(.t 64), (.t 71)]), [9, 10, 11, 12, 13, 14]⟩, xO 15 79 (.call 150 [(.t 72), (.t 78)]), xM 16 5 79]
@[simp] def l_RTPut_47 (_ : Unit) : List EOp := xQ 6 70 (.ldc (.t 69)) :: xQ 7 71 (.cnv .u64 (.t 70)) :: xQ 9 73 (.fad 2 (.t 2)) :: xQ 10 74 (.ldc (.t 73)) :: xM 11 75 8 :: xQ 12 76 (.isl 2 (.t 74) (.t 75)) :: hid l_RTPut_48
@[simp] def l_RTPut_46 (_ : Unit) : List EOp := xM 0 64 5 :: xQ 1 65 (.fad 2 (.t 2)) :: xQ 2 66 (.ldc (.t 65)) :: xM 3 67 8 :: xQ 4 68 (.isl 2 (.t 66) (.t 67)) :: xQ 5 69 (.fad 0 (.t 68)) :: hid l_RTPut_47
@[simp] def b_RTPut_49 (_ : Unit) : EB := reg1 (hid l_RTPut_46) 17
@[simp] def b_RTPut_50 (_ : Unit) : EB := .block 3 (hid b_RTPut_49)
@[simp] def l_RTPut_51 (_ : Unit) : List EOp := [xM 0 62 8, xQ 1 63 (.bin .add (.t 62) (.k (.int .i64 1))), xM 2 8 63]
@[simp] def b_RTPut_52 (_ : Unit) : EB := reg0 (hid l_RTPut_51) 3
@[simp] def b_RTPut_53 (_ : Unit) : EB := .seq (hid b_RTPut_50) (hid b_RTPut_52)
@[simp] def b_RTPut_54 (_ : Unit) : EB := .seq (hid b_RTPut_45) (hid b_RTPut_53)
@[simp] def b_RTPut_55 (_ : Unit) : EB := .loop (hid b_RTPut_54)
@[simp] def b_RTPut_56 (_ : Unit) : EB := .block 2 (hid b_RTPut_55)
@[simp] def b_RTPut_57 (_ : Unit) : EB := .seq (hid b_RTPut_41) (hid b_RTPut_56)
@[simp] def l_RTPut_58 (_ : Unit) : List EOp := [xM 0 80 5, xM 1 4 80]
@[simp] def b_RTPut_59 (_ : Unit) : EB := reg0 (hid l_RTPut_58) 2
@[simp] def b_RTPut_60 (_ : Unit) : EB := .seq (hid b_RTPut_59) .ret
@[simp] def b_RTPut_61 (_ : Unit) : EB := .seq (hid b_RTPut_57) (hid b_RTPut_60)
@[simp] def b_RTPut_62 (_ : Unit) : EB := .seq (hid b_RTPut_39) (hid b_RTPut_61)
@[simp] def b_RTPut_63 (_ : Unit) : EB := .seq (hid b_RTPut_36) (hid b_RTPut_62)
@[simp] def b_RTPut_64 (_ : Unit) : EB := .seq (hid b_RTPut_5) (hid b_RTPut_63)
@[simp] def b_RTPut_65 (_ : Unit) : EB := .seq (hid b_RTPut_2) (hid b_RTPut_64)
def c_RTPut : EB × List QOp × Nat := ((hid b_RTPut_65), [(.mov (.t 4))], 81)
theorem k_RTPut : cfun Tryz.prog 99 = some c_RTPut := by kernel_rfl
@[simp] def l_RTEncode_1 (_ : Unit) : List EOp := [xQ 0 1 (.box 69 (.t 0)), xQ 1 2 (.mov (.k (.slice none 0 0)))]
@[simp] def b_RTEncode_2 (_ : Unit) : EB := reg0 (hid l_RTEncode_1) 2
@[simp] def l_RTEncode_3 (_ : Unit) : List EOp := [xQ 0 3 (.lda 3 (.t 1)), xO 1 4 (.call 99 [(.t 3), (.k (.bool true))]), xM 2 2 4]
@[simp] def b_RTEncode_4 (_ : Unit) : EB := reg0 (hid l_RTEncode_3) 3
@[simp] def b_RTEncode_5 (_ : Unit) : EB := .seq (hid b_RTEncode_4) .ret
@[simp] def b_RTEncode_6 (_ : Unit) : EB := .seq (hid b_RTEncode_2) (hid b_RTEncode_5)
def c_RTEncode : EB × List QOp × Nat := ((hid b_RTEncode_6), [(.mov (.t 2))], 5)
theorem k_RTEncode : cfun Tryz.prog 55 = some c_RTEncode := by kernel_rfl
set_option maxHeartbeats 8000000 in
theorem RCPut_ok (pre : List UInt8) (l : List Bra) (hl : ∀ b ∈ l, b.ok) (hn : l.length ≤ 100000000) (hs : pre.length + (cndB l).length ≤ 400000000) : ECalls Tryz.prog 150 [Bs pre, CNv l] [] fun y H' => H' = [some (RO (pre ++ cndB l))] ∧ y = R 0 (pre ++ cndB l) := by
  have hc0 : (cndB l).length = (uB (l.length : Int)).length + (brsB l).length := by simp [cndB]
  obtain ⟨F, hF⟩ : ∃ F : Nat → List UInt8, F = fun i => pre ++ uB (l.length : Int) ++ brsB (l.take i) := ⟨_, rfl⟩
  have hF0 : pre ++ uB (l.length : Int) = F 0 := by rw [hF]; simp [brsB]
  have hFl : ∀ i, (F i).length ≤ 400000000 := by
    intro i
    have hfl := flat_take braB l i
    rw [hF]; simp only [List.length_append]; unfold brsB at *; omega
  refine ecalls k_RCPut ?_
  simp [c_RCPut, CNv, Bs]
  refine ⟨⟨by omega, by omega⟩, ?_⟩
  simp only [wrap_u64n]
  refine call0 (RUint_ok pre (u64n (l.length : Int)) (u64n_lt _) (by omega)) (by simp [I, Bs, List.take_of_length_le]) ?_
  rintro y H' ⟨rfl, rfl⟩
  refine ⟨.inr ⟨rfl, by simp [RO, bsv, cb]⟩, le_ok rfl, ?_⟩
  simp only [uB_eq, hF0]
  simp [R, RO]
  refine eloop (α := Nat) (fun i => i ≤ l.length) (fun i => l.length - i)
    (fun i => [.any, .any, .any, Ptr 0, .any, R 1 (F i), I .i64 i, .any, .any, .any, .any, .any, .any, .any, .any, .any, .any, .any, .any, .any, .any, .any, .any, .any, .any, .any, .any, .any, .any, .any, .any, .any, .any, .any, .any, .any, .any, .any, .any, .any, .any, .any, .any, .any, .any, .any, .any, .any, .any, .any, .any, .any, .any, .any, .any, .any, .any, .any, .any, .any, .any, .any, .any]) (fun i => [some (.box 145 [.fz (.sl 35 (brav l))]), some (RO (F i))]) 0 [0, 160]
    (Nat.zero_le _) (by simp [Ptr, I, R]) (by simp [RO]) (by simp) (by simp) (by simp) ?_
  intro i hi
  have hX := hFl i
  simp [Ptr, I, R, RO]
  refine alt (fun hlt => ?_) (fun hlt => ?_)
  · have hln : i < l.length := by omega
    obtain ⟨b, hcx⟩ : ∃ b, l[i]? = some b := ⟨l[i], by simp [hln]⟩
    have hge : (brav l)[i]'(by simpa using hln) = braF b := by
      have e := brav_get hcx
      rw [List.getElem?_eq_getElem (by simpa using hln)] at e
      exact Option.some.inj e
    have hb := hl b (List.mem_of_getElem? hcx)
    obtain ⟨b1, b2, b3, b4, b5⟩ := id hb
    have l0 := bc_len b2
    have f0 := bf_len b2
    have tk := bc_take b2
    have lk : List.take 32 (braC b).tail = hc b.lock := by have := bc_lock b2; simpa using this
    have e0 := idx_of (bc_0 b) (by omega)
    have e33 := idx_of (bc_33 b2) (by omega)
    have e34 := idx_of (bc_34 b2) (by omega)
    have w1 : IntKind.i64.wrap ((i : Int) + 1) = ((i + 1 : Nat) : Int) := wrap_i64 (by omega) (by omega)
    have hfs := flat_take_s braB hcx
    have hbl : (braB b).length = (uB (b.keys.length : Int)).length + ((usB b.keys).length + (32 + ((uB b.af).length + (uB b.ol).length))) := by simp [braB, b2]
    have hXb : (F i).length + (braB b).length ≤ 400000000 := by
      rw [hF]; simp only [List.length_append]; unfold brsB at *; omega
    have hFs : F (i + 1) = F i ++ braB b := by rw [hF]; simp [take_s hcx, brsB_snoc]
    simp [hln, hge, braF_fz, l0, f0, tk, lk, e0, e33, e34, wrap_u64n, drop34z, iC, RO, R, Ptr]
    refine call0 (RUint_ok (F i) (u64n (b.keys.length : Int)) (u64n_lt _) (by omega)) (by simp [I, Bs, List.take_of_length_le]) ?_
    rintro y H' ⟨rfl, rfl⟩
    refine ⟨.inr ⟨rfl, by simp [RO, bsv, cb]⟩, le_ok rfl, ?_⟩
    obtain ⟨G, hG⟩ : ∃ G : Nat → List UInt8, G = fun j => F i ++ uB (b.keys.length : Int) ++ usB (b.keys.take j) := ⟨_, rfl⟩
    have hG0 : F i ++ uB (b.keys.length : Int) = G 0 := by rw [hG]; simp [usB]
    have hGl : ∀ j, (G j).length + 32 + (uB b.af).length + (uB b.ol).length ≤ 400000000 := by
      intro j
      have hfk := flat_take uB b.keys j
      rw [hG]; simp only [List.length_append]; unfold usB at *; omega
    simp only [uB_eq, hG0]
    simp [hln, hge, braF_fz, l0, f0, tk, lk, e0, e33, e34, wrap_u64n, drop34z, iC, RO, R, Ptr]
    refine eloop (α := Nat) (fun j => j ≤ b.keys.length) (fun j => b.keys.length - j)
      (fun j => [.any, .any, .any, Ptr 0, .any, R 1 (G j), I .i64 i, Ptr 2, I .i64 j, .any, .any, .any, .any, .any, .any, .any, .any, .any, .any, .any, .any, .any, .any, .any, .any, .any, .any, .any, .any, .any, .any, .any, .any, .any, .any, .any, .any, .any, .any, .any, .any, .any, .any, .any, .any, .any, .any, .any, .any, .any, .any, .any, .any, .any, .any, .any, .any, .any, .any, .any, .any, .any, .any])
      (fun j => [some (.box 145 [.fz (.sl 35 (brav l))]), some (RO (G j)), some (.box 150 (braC b))]) 0 [0, 274, 162]
      (Nat.zero_le _) (by simp [Ptr, I, R]) (by simp [RO]) (by simp) (by simp) (by simp) ?_
    intro j hj
    have hY := hGl j
    simp [Ptr, I, R, RO, l0, e0]
    refine alt (fun hlt2 => ?_) (fun hlt2 => ?_)
    · have hjn : j < b.keys.length := by omega
      obtain ⟨k, hc2⟩ : ∃ k, b.keys[j]? = some k := ⟨b.keys[j], by simp [hjn]⟩
      have hcb2 := intv_get hc2
      have w3 : IntKind.i64.wrap ((j : Int) + 1) = ((j + 1 : Nat) : Int) := wrap_i64 (by omega) (by omega)
      have hGs : G (j + 1) = G j ++ uB k := by rw [hG]; simp [take_s hc2, usB_snoc]
      simp [hcb2, hln, hge, braF_fz, l0, f0, tk, lk, e0, e33, e34, wrap_u64n, drop34z, iC, RO, R, Ptr]
      refine call0 (RUint_ok (G j) (u64n k) (u64n_lt _) (by omega)) (by simp [I, Bs, List.take_of_length_le]) ?_
      rintro y H' ⟨rfl, rfl⟩
      refine ⟨.inr ⟨rfl, by simp [RO, bsv, cb]⟩, le_ok rfl, ?_⟩
      simp only [uB_eq, ← hGs]
      simp [R, RO, w3, -Int.natCast_add]
      exact round (j + 1) [0, 195, 2] (by omega) (by omega) (by simp [Ptr, I, R]) (by simp [RO]) (by simp) (by simp) (by simp)
    have hjl : j = b.keys.length := by omega
    subst hjl
    simp [hln, hge, braF_fz, l0, f0, tk, lk, e0, e33, e34, wrap_u64n, drop34z, iC, RO, R, Ptr]
    refine call0 (RHash_ok (G b.keys.length) b.lock (by omega) b2) (by simp [Ag, Bs, List.take_of_length_le, lk]) ?_
    rintro y H' ⟨rfl, rfl⟩
    refine ⟨.inr ⟨rfl, by simp [RO, bsv, cb]⟩, le_ok rfl, ?_⟩
    simp [hln, hge, braF_fz, l0, f0, tk, lk, e0, e33, e34, wrap_u64n, drop34z, iC, RO, R, Ptr]
    refine call0 (RUint_ok (G b.keys.length ++ b.lock) (u64n b.af) (u64n_lt _) (by simp; omega)) (by simp [I, Bs, List.take_of_length_le]) ?_
    rintro y H' ⟨rfl, rfl⟩
    refine ⟨.inr ⟨rfl, by simp [RO, bsv, cb]⟩, le_ok rfl, ?_⟩
    simp only [uB_eq]
    simp [hln, hge, braF_fz, l0, f0, tk, lk, e0, e33, e34, wrap_u64n, drop34z, iC, RO, R, Ptr]
    refine call0 (RUint_ok (G b.keys.length ++ b.lock ++ uB b.af) (u64n b.ol) (u64n_lt _) (by simp; omega)) (by simp [I, Bs, List.take_of_length_le]) ?_
    rintro y H' ⟨rfl, rfl⟩
    refine ⟨.inr ⟨rfl, by simp [RO, bsv, cb]⟩, le_ok rfl, ?_⟩
    have hGe : G b.keys.length ++ b.lock ++ uB b.af ++ uB b.ol = F (i + 1) := by rw [hFs, hG]; simp [braB]
    simp only [uB_eq, hGe]
    simp [R, RO, Ptr, w1, -Int.natCast_add]
    exact round (i + 1) [0, 259] (by omega) (by omega) (by simp [Ptr, I, R]) (by simp [RO]) (by simp) (by simp) (by simp)
  have hil : i = l.length := by omega
  subst hil
  have hXc : pre ++ cndB l = F l.length := by rw [hF]; simp [cndB]
  simp
  exact fin [1] (by decide) rfl rfl rfl ⟨by simp [hXc, RO], by simp [← hXc, R]⟩
set_option maxHeartbeats 16000000 in
theorem RTPut_ok (t : Txn) (ht : t.ok) (hsec : ∀ x ∈ t.ins, x.sec.length ≤ 10000000) (hs : (encT t).length ≤ 400000000) : ECalls Tryz.prog 99 [TXv t, .lit (.bool true)] [] fun y H' => H' = [] ∧ y = Bs (encT t) := by
  obtain ⟨t1, t2, t3, t4, t5⟩ := id ht
  have hlen : (encT t).length = (uB t.lk).length + (uB (t.ins.length : Int)).length + (insB t.ins).length + (uB (t.outs.length : Int)).length + (ousB t.outs).length := by simp [encT, mdB, hdB]; try omega
  obtain ⟨F, hF⟩ : ∃ F : Nat → List UInt8, F = fun i => hdB t ++ insB (t.ins.take i) := ⟨_, rfl⟩
  have hF0 : uB t.lk ++ uB (t.ins.length : Int) = F 0 := by rw [hF]; simp [insB, hdB]
  have hFl : ∀ i, (F i).length ≤ 400000000 := by
    intro i
    have hfl := flat_take inpB t.ins i
    rw [hF]; simp only [List.length_append, hdB]; unfold insB at *; omega
  have hFe : F t.ins.length = hdB t ++ insB t.ins := by rw [hF]; simp
  obtain ⟨K, hK⟩ : ∃ K : Nat → List UInt8, K = fun i => mdB t ++ ousB (t.outs.take i) := ⟨_, rfl⟩
  have hK0 : F t.ins.length ++ uB (t.outs.length : Int) = K 0 := by rw [hK, hFe]; simp [ousB, mdB]
  have hKl : ∀ i, (K i).length ≤ 400000000 := by
    intro i
    have hfl := flat_take oupB t.outs i
    rw [hK]; simp only [List.length_append, hdB, mdB]; unfold ousB at *; omega
  refine ecalls k_RTPut ?_
  simp [c_RTPut, TXv, txC, iC, wrap_u64n]
  refine call0 (RUint_nil (u64n t.lk) (u64n_lt _)) (by simp [I]) ?_
  rintro y H' ⟨rfl, rfl⟩
  refine ⟨.inl (by simp), le_ok rfl, ?_⟩
  simp only [uB_eq]
  simp [R, RO, wrap_u64n]
  refine call0 (RUint_ok (uB t.lk) (u64n (t.ins.length : Int)) (u64n_lt _) (by omega)) (by simp [I, Bs, List.take_of_length_le]) ?_
  rintro y H' ⟨rfl, rfl⟩
  refine ⟨.inr ⟨rfl, by simp [RO, bsv, cb]⟩, le_ok rfl, ?_⟩
  simp only [uB_eq, hF0]
  simp [R, RO, wrap_u64n]
  refine eloop (α := Nat) (fun i => i ≤ t.ins.length) (fun i => t.ins.length - i)
    (fun i => [.any, .lit (.bool true), Ptr 0, .any, .any, R 1 (F i), I .i64 i, .any, .any, .any, .any, .any, .any, .any, .any, .any, .any, .any, .any, .any, .any, .any, .any, .any, .any, .any, .any, .any, .any, .any, .any, .any, .any, .any, .any, .any, .any, .any, .any, .any, .any, .any, .any, .any, .any, .any, .any, .any, .any, .any, .any, .any, .any, .any, .any, .any, .any, .any, .any, .any, .any, .any, .any, .any, .any, .any, .any, .any, .any, .any, .any, .any, .any, .any, .any, .any, .any, .any, .any, .any, .any]) (fun i => [some (.box 69 (txC t)), some (RO (F i))]) 0 [0, 160]
    (Nat.zero_le _) (by simp [Ptr, I, R]) (by simp [RO, txC, iC]) (by simp) (by simp) (by simp) ?_
  intro i hi
  have hX := hFl i
  simp [Ptr, I, R, RO, txC, iC]
  refine alt (fun hlt => ?_) (fun hlt => ?_)
  · have hln : i < t.ins.length := by omega
    obtain ⟨x, hcx⟩ : ∃ x, t.ins[i]? = some x := ⟨t.ins[i], by simp [hln]⟩
    have hge : (inpv t.ins)[i]'(by simpa using hln) = inpF x := by
      have e := inpv_get hcx
      rw [List.getElem?_eq_getElem (by simpa using hln)] at e
      exact Option.some.inj e
    have hx := t2 x (List.mem_of_getElem? hcx)
    obtain ⟨x1, x2, x3, x4⟩ := id hx
    have x5 := hsec x (List.mem_of_getElem? hcx)
    have l0 := ic_len x1
    have f0 := if_len x1
    have tk := ic_take x1
    have th := ic_hash x1
    have e32 := idx_of (ic_32 x1) (by omega)
    have e33 := idx_of (ic_33 x1) (by omega)
    have e34 := idx_of (ic_34 x1) (by omega)
    have w1 : IntKind.i64.wrap ((i : Int) + 1) = ((i + 1 : Nat) : Int) := wrap_i64 (by omega) (by omega)
    have hfs := flat_take_s inpB hcx
    have hbl : (inpB x).length = 32 + ((uB x.n).length + ((uB x.br).length + (bytesB x.sec).length)) := by simp [inpB, x1]
    have hXb : (F i).length + (inpB x).length ≤ 400000000 := by
      rw [hF]; simp only [List.length_append, hdB]; unfold insB at *; omega
    have hFs : F (i + 1) = F i ++ inpB x := by rw [hF]; simp [take_s hcx, insB_snoc]
    simp [hln, hge, inpF_fz, l0, f0, tk, th, e32, e33, e34, wrap_u64n, drop35h, iC, RO, R, Ptr]
    refine call0 (RHash_ok (F i) x.tx (by omega) x1) (by simp [Ag, Bs, List.take_of_length_le]) ?_
    rintro y H' ⟨rfl, rfl⟩
    refine ⟨.inr ⟨rfl, by simp [RO, bsv, cb]⟩, le_ok rfl, ?_⟩
    simp [hln, hge, inpF_fz, l0, f0, tk, th, e32, e33, e34, wrap_u64n, drop35h, iC, RO, R, Ptr]
    refine call0 (RUint_ok (F i ++ x.tx) (u64n x.n) (u64n_lt _) (by simp; omega)) (by simp [I, Bs, List.take_of_length_le]) ?_
    rintro y H' ⟨rfl, rfl⟩
    refine ⟨.inr ⟨rfl, by simp [RO, bsv, cb]⟩, le_ok rfl, ?_⟩
    simp only [uB_eq]
    simp [hln, hge, inpF_fz, l0, f0, tk, th, e32, e33, e34, wrap_u64n, drop35h, iC, RO, R, Ptr]
    refine call0 (RUint_ok (F i ++ x.tx ++ uB x.n) (u64n x.br) (u64n_lt _) (by simp; omega)) (by simp [I, Bs, List.take_of_length_le]) ?_
    rintro y H' ⟨rfl, rfl⟩
    refine ⟨.inr ⟨rfl, by simp [RO, bsv, cb]⟩, le_ok rfl, ?_⟩
    simp only [uB_eq]
    simp [hln, hge, inpF_fz, l0, f0, tk, th, e32, e33, e34, wrap_u64n, drop35h, iC, RO, R, Ptr]
    refine call0 (RBytes_ok (F i ++ x.tx ++ uB x.n ++ uB x.br) x.sec (by simp; omega) (by omega)) (by simp [Bs, List.take_of_length_le]) ?_
    rintro y H' ⟨rfl, rfl⟩
    refine ⟨.inr ⟨rfl, by simp [RO, bsv, cb]⟩, le_ok rfl, ?_⟩
    have hGe : F i ++ x.tx ++ uB x.n ++ uB x.br ++ bytesB x.sec = F (i + 1) := by rw [hFs]; simp [inpB]
    simp only [hGe]
    simp [R, RO, Ptr, w1, -Int.natCast_add]
    exact round (i + 1) [0, 498] (by omega) (by omega) (by simp [Ptr, I, R]) (by simp [RO, txC, iC]) (by simp) (by simp) (by simp)
  have hil : i = t.ins.length := by omega
  subst hil
  simp [wrap_u64n]
  refine call0 (RUint_ok (F t.ins.length) (u64n (t.outs.length : Int)) (u64n_lt _) (by omega)) (by simp [I, Bs, List.take_of_length_le]) ?_
  rintro y H' ⟨rfl, rfl⟩
  refine ⟨.inr ⟨rfl, by simp [RO, bsv, cb]⟩, le_ok rfl, ?_⟩
  simp only [uB_eq, hK0]
  simp [R, RO]
  refine eloop (α := Nat) (fun i => i ≤ t.outs.length) (fun i => t.outs.length - i)
    (fun i => [.any, .any, Ptr 0, .any, .any, R 1 (K i), .any, .any, I .i64 i, .any, .any, .any, .any, .any, .any, .any, .any, .any, .any, .any, .any, .any, .any, .any, .any, .any, .any, .any, .any, .any, .any, .any, .any, .any, .any, .any, .any, .any, .any, .any, .any, .any, .any, .any, .any, .any, .any, .any, .any, .any, .any, .any, .any, .any, .any, .any, .any, .any, .any, .any, .any, .any, .any, .any, .any, .any, .any, .any, .any, .any, .any, .any, .any, .any, .any, .any, .any, .any, .any, .any, .any]) (fun i => [some (.box 69 (txC t)), some (RO (K i))]) 0 [0, 162]
    (Nat.zero_le _) (by simp [Ptr, I, R]) (by simp [RO, txC, iC]) (by simp) (by simp) (by simp) ?_
  intro i hi
  have hX := hKl i
  simp [Ptr, I, R, RO, txC, iC]
  refine alt (fun hlt => ?_) (fun hlt => ?_)
  · have hln : i < t.outs.length := by omega
    obtain ⟨x, hcx⟩ : ∃ x, t.outs[i]? = some x := ⟨t.outs[i], by simp [hln]⟩
    have hge : (outv t.outs)[i]'(by simpa using hln) = outF x := by
      have e := outv_get hcx
      rw [List.getElem?_eq_getElem (by simpa using hln)] at e
      exact Option.some.inj e
    obtain ⟨x1, x2, x3⟩ := t3 x (List.mem_of_getElem? hcx)
    have w1 : IntKind.i64.wrap ((i : Int) + 1) = ((i + 1 : Nat) : Int) := wrap_i64 (by omega) (by omega)
    have hfs := flat_take_s oupB hcx
    have hbl : (oupB x).length = (uB x.am).length + (cndB x.cs).length := by simp [oupB]
    have hXb : (K i).length + (oupB x).length ≤ 400000000 := by
      rw [hK]; simp only [List.length_append, hdB, mdB]; unfold ousB at *; omega
    have hKs : K (i + 1) = K i ++ oupB x := by rw [hK]; simp [take_s hcx, ousB_snoc]
    simp [hln, hge, outF, iF, wrap_u64n]
    refine call0 (RUint_ok (K i) (u64n x.am) (u64n_lt _) (by omega)) (by simp [I, Bs, List.take_of_length_le]) ?_
    rintro y H' ⟨rfl, rfl⟩
    refine ⟨.inr ⟨rfl, by simp [RO, bsv, cb]⟩, le_ok rfl, ?_⟩
    simp only [uB_eq]
    simp [hln, hge, outF, iF, R, RO, wrap_u64n]
    refine call0 (RCPut_ok (K i ++ uB x.am) x.cs x2 x3 (by simp; omega)) (by simp [CNv, Bs, List.take_of_length_le]) ?_
    rintro y H' ⟨rfl, rfl⟩
    refine ⟨.inr ⟨rfl, by simp [RO, bsv, cb]⟩, le_ok rfl, ?_⟩
    have hGe : K i ++ uB x.am ++ cndB x.cs = K (i + 1) := by rw [hKs]; simp [oupB]
    simp only [hGe]
    simp [R, RO, w1, -Int.natCast_add]
    exact round (i + 1) [0, 322] (by omega) (by omega) (by simp [R, I, Ptr]) (by simp [RO, txC, iC]) (by simp) (by simp) (by simp)
  have hil : i = t.outs.length := by omega
  subst hil
  have hKe : K t.outs.length = encT t := by rw [hK]; simp [encT]
  simp
  refine finW _ (weak_frz (o := 1) (ty := 5) (es := 1) (xs := bsv (K t.outs.length)) rfl) ?_
  exact fin [] (by decide) rfl rfl rfl ⟨rfl, by simp [Bs, hKe, List.take_of_length_le]⟩
set_option maxHeartbeats 4000000 in
theorem RTEncode_ok (t : Txn) (ht : t.ok) (hsec : ∀ x ∈ t.ins, x.sec.length ≤ 10000000) (hs : (encT t).length ≤ 400000000) : ECalls Tryz.prog 55 [TXv t] [] fun y H' => H' = [] ∧ y = Bs (encT t) := by
  refine ecalls k_RTEncode ?_
  simp [c_RTEncode, TXv, txC, iC]
  refine call0 (RTPut_ok t ht hsec hs) (by simp [TXv, txC, iC]) ?_
  rintro y H' ⟨rfl, rfl⟩
  refine ⟨.inl (by simp [Bs]), le_ok rfl, ?_⟩
  simp [Bs]
  exact fin [] (by decide) rfl rfl rfl ⟨rfl, rfl⟩
end Go.Proofs.YtflcfdeanneoeaaGreatDoor
namespace Go.Proofs.YtflcfdeanneoeaaGreatDoor
open Go Go.EW
set_option linter.unusedSimpArgs false
set_option linter.unusedVariables false
def gN : FV → FV
  | .sl _ [] => .lit (.slice none 0 0)
  | x => x
theorem fr_g {Φ : Nat → Prop} {w : World} {es : Nat} {ys : List (List FV)} {v : Value} (h : FR Φ w (.sl es (ys.map (·.map gN))) v) : FR Φ w (.sl es ys) v := by
  generalize hx : ys.map (·.map gN) = xs at h
  have hlen : xs.length = ys.length := by rw [← hx]; simp
  cases h with
  | emp => 
    have : ys = [] := by simpa using hx
    subst this
    exact FR.emp _ _ _
  | sl es xs b off cap vs hb h0 hl hn hcap hcell hfr =>
    rw [hlen]
    refine .sl es ys b off cap vs hb h0 ?_ (by rw [hn, hlen]) (by omega) hcell ?_
    · intro y hy
      have := hl (y.map gN) (by rw [← hx]; exact List.mem_map.2 ⟨y, hy, rfl⟩)
      simpa using this
    · intro j y u hy hu
      have e : xs.flatten = ys.flatten.map gN := by rw [← hx, List.map_flatten]
      have h1 := hfr j (gN y) u (by rw [e, List.getElem?_map, hy]; rfl) hu
      unfold gN at h1
      split at h1
      · cases h1
        exact FR.emp _ none 0
      · exact h1
theorem ecalls_nlG {P : Program} {f : FuncId} {a c : EC} {ys : List (List FV)} {rest : List EV} {H : List EO} {post : EV → List (Option EO) → Prop} (h : ECalls P f (.v (.agg [a, .fz (.sl 35 ys), c]) :: rest) H post) :
    ECalls P f (.v (.agg [a, .fz (.sl 35 (ys.map (·.map gN))), c]) :: rest) H post := by
  intro ρ Φ w vals r' ha
  refine h ρ Φ w vals r' ?_
  obtain ⟨u, us, rfl, h1, h2⟩ := ha.cons_left
  refine All2.cons ?_ h2
  obtain ⟨vs, rfl, hv⟩ := h1
  refine ⟨vs, rfl, by simpa using hv.1, ?_⟩
  intro i x y hx hy
  rcases i with _ | _ | _ | i
  · exact hv.2 0 x y hx hy
  · have := hv.2 1 _ y rfl hy
    simp at hx; subst hx
    exact fr_g this
  · exact hv.2 2 x y hx hy
  · simp at hx
theorem hf_gN (l : List UInt8) (r : List FV) : (hf l ++ r).map gN = hf l ++ r.map gN := by
  have : (hf l).map gN = hf l := by simp [hf, gN]
  rw [List.map_append, this]
end Go.Proofs.YtflcfdeanneoeaaGreatDoor
namespace Go.Proofs.YtflcfdeanneoeaaGreatDoor
open Go Go.EW
set_option linter.unusedSimpArgs false
set_option linter.unusedVariables false
def Bra.sm (b : Bra) : Prop := b.lock.length = 32 ∧ b.keys.length ≤ 1000
def Outp.sm (o : Outp) : Prop := (∀ b ∈ o.cs, b.sm) ∧ o.cs.length ≤ 100
def Inp.sm (x : Inp) : Prop := x.tx.length = 32 ∧ x.sec.length ≤ 10000
def Txn.sm (t : Txn) : Prop := (∀ x ∈ t.ins, x.sm) ∧ (∀ o ∈ t.outs, o.sm) ∧ t.ins.length ≤ 400 ∧ t.outs.length ≤ 400
theorem braB_le {b : Bra} (h : b.sm) : (braB b).length ≤ 9100 := by
  have h1 := uB_len (b.keys.length : Int)
  have h2 := usB_len b.keys
  have h3 := uB_len b.af
  have h4 := uB_len b.ol
  obtain ⟨q1, q2⟩ := h
  simp only [braB, List.length_append]
  omega
theorem cndB_le {l : List Bra} (h : ∀ b ∈ l, b.sm) (hn : l.length ≤ 100) : (cndB l).length ≤ 920000 := by
  have h1 := uB_len (l.length : Int)
  have h2 : (brsB l).length ≤ 9100 * l.length := flat_len fun b hb => braB_le (h b hb)
  simp only [cndB, List.length_append]
  omega
theorem oupB_le {o : Outp} (h : o.sm) : (oupB o).length ≤ 930000 := by
  have h1 := uB_len o.am
  have h2 := cndB_le h.1 h.2
  simp only [oupB, List.length_append]
  omega
theorem inpB_le {x : Inp} (h : x.sm) : (inpB x).length ≤ 20100 := by
  have h1 := uB_len x.n
  have h2 := uB_len x.br
  have h3 := stuff_len x.sec
  obtain ⟨q1, q2⟩ := h
  simp only [inpB, bytesB, List.length_append, List.length_cons, List.length_nil]
  omega
theorem encT_le {t : Txn} (h : t.sm) : (encT t).length ≤ 400000000 := by
  obtain ⟨q1, q2, q3, q4⟩ := h
  have h1 := uB_len t.lk
  have h2 := uB_len (t.ins.length : Int)
  have h3 := uB_len (t.outs.length : Int)
  have h4 : (insB t.ins).length ≤ 20100 * t.ins.length := flat_len fun x hx => inpB_le (q1 x hx)
  have h5 : (ousB t.outs).length ≤ 930000 * t.outs.length := flat_len fun x hx => oupB_le (q2 x hx)
  simp only [encT, mdB, hdB, List.length_append]
  omega
theorem sm_sec {t : Txn} (h : t.sm) : ∀ x ∈ t.ins, x.sec.length ≤ 10000000 := fun x hx => by have := (h.1 x hx).2; omega
theorem zTx_okS : zTx.ok ∧ zTx.sm := by simp [zTx, Txn.ok, Txn.sm, i64]
theorem donT_ok {t : Txn} (h : t.ok ∧ t.sm) : (donT t).1.ok ∧ (donT t).1.sm := by
  unfold donT
  split
  · exact zTx_okS
  · exact h
end Go.Proofs.YtflcfdeanneoeaaGreatDoor
namespace Go.Proofs.YtflcfdeanneoeaaGreatDoor
open Go Go.EW
set_option linter.unusedSimpArgs false
set_option linter.unusedVariables false
@[simp] def l_same_1 (_ : Unit) : List EOp := [xQ 0 4 (.box 63 (.t 0)), xQ 1 6 (.box 69 (.t 2)), xQ 2 8 (.mov (.k (.bool false)))]
@[simp] def b_same_2 (_ : Unit) : EB := reg0 (hid l_same_1) 3
@[simp] def l_same_5 (_ : Unit) : List EOp := [xQ 12 21 (.pick (.t 13) (.t 20) (.k (.bool false))), xM 13 8 21]
@[simp] def l_same_4 (_ : Unit) : List EOp := xG 8 17 13 true (.lda 3 (.t 6)) :: ⟨6, (some 15), (some (13, true)), (.call 54 [(.t 14)]), [8]⟩ :: xG 7 16 13 true (.b2s (.t 15)) :: ⟨9, (some 18), (some (13, true)), (.call 55 [(.t 17)]), [7]⟩ :: xG 10 19 13 true (.b2s (.t 18)) :: xG 11 20 13 true (.bin .eql (.t 16) (.t 19)) :: hid l_same_5
@[simp] def l_same_3 (_ : Unit) : List EOp := xM 0 9 1 :: xM 2 11 3 :: ⟨1, (some 10), none, (.call 17 [(.t 9)]), [2]⟩ :: xQ 3 12 (.bin .eql (.t 10) (.t 11)) :: xM 4 13 12 :: xG 5 14 13 true (.lda 3 (.t 4)) :: hid l_same_4
@[simp] def b_same_6 (_ : Unit) : EB := reg1 (hid l_same_3) 14
@[simp] def b_same_7 (_ : Unit) : EB := .seq (hid b_same_6) .ret
@[simp] def b_same_8 (_ : Unit) : EB := .seq (hid b_same_2) (hid b_same_7)
def c_same : EB × List QOp × Nat := ((hid b_same_8), [(.mov (.t 8))], 22)
theorem k_same : cfun Tryz.prog 22 = some c_same := by kernel_rfl
set_option maxHeartbeats 4000000 in
theorem same_ok (t : Txn) (e : Nat) (ht : t.ok) (hs : t.sm) : ECalls Tryz.prog 22 [TXv t, .lit (errV e), TXv t, I .i64 e] [] fun y H' => H' = [] ∧ y = .lit (.bool true) := by
  have e1 := TEncode_ok t ht (sm_sec hs) (encT_le hs)
  have e2 := RTEncode_ok t ht (sm_sec hs) (encT_le hs)
  refine ecalls k_same ?_
  simp [c_same, TXv, txC, iC, I, -errV_0]
  refine call0 (num_e e) (by simp) ?_
  rintro z H' ⟨rfl, rfl⟩
  refine ⟨.inl (by simp [I]), le_ok rfl, ?_⟩
  simp [I, TXv, txC, iC, -errV_0]
  refine call0 e1 (by simp [TXv, txC, iC]) ?_
  rintro z H' ⟨rfl, rfl⟩
  refine ⟨.inl (by simp [Bs]), le_ok rfl, ?_⟩
  simp [Bs, txC, iC, -errV_0]
  refine call0 e2 (by simp [TXv, txC, iC]) ?_
  rintro z H' ⟨rfl, rfl⟩
  refine ⟨.inl (by simp [Bs]), le_ok rfl, ?_⟩
  simp [Bs, txC, iC, -errV_0]
  exact fin [] (by decide) rfl rfl rfl ⟨rfl, rfl⟩
end Go.Proofs.YtflcfdeanneoeaaGreatDoor
namespace Go.Proofs.YtflcfdeanneoeaaGreatDoor
open Go Go.EW
set_option linter.unusedSimpArgs false
set_option linter.unusedVariables false
@[simp] def l_BClose_1 (_ : Unit) : List EOp := [xQ 0 2 (.box 42 (.t 0)), xQ 1 3 (.box 47 (.t 1)), xQ 2 4 (.alloc 63 [(.int .i64 0), (.slice none 0 0), (.slice none 0 0)]), xQ 3 5 (.mov (.k .nilIface))]
@[simp] def b_BClose_2 (_ : Unit) : EB := reg0 (hid l_BClose_1) 4
@[simp] def l_BClose_3 (_ : Unit) : List EOp := [xQ 0 10 (.lda 38 (.t 2)), xQ 1 11 (.lda 5 (.t 3)), xO 2 12 (.call 20 [(.t 10), (.t 11)]), xM 3 6 12]
@[simp] def b_BClose_4 (_ : Unit) : EB := reg0 (hid l_BClose_3) 4
@[simp] def l_BClose_5 (_ : Unit) : List EOp := [xM 0 13 6, xQ 1 14 (.eqi true (.t 13))]
@[simp] def b_BClose_6 (_ : Unit) : EB := reg0 (hid l_BClose_5) 2
@[simp] def l_BClose_7 (_ : Unit) : List EOp := [xQ 0 15 (.build [(.int .i64 0), (.slice none 0 0), (.slice none 0 0)] []), xM 1 16 6, xN 2 (.fz (.sto 3 (.t 4) (.t 15))), xM 3 5 16]
@[simp] def b_BClose_8 (_ : Unit) : EB := reg0 (hid l_BClose_7) 4
@[simp] def b_BClose_9 (_ : Unit) : EB := .seq (hid b_BClose_8) .ret
@[simp] def b_BClose_10 (_ : Unit) : EB := .cond (.t 14) (hid b_BClose_9) .skip
@[simp] def b_BClose_11 (_ : Unit) : EB := .seq (hid b_BClose_6) (hid b_BClose_10)
@[simp] def b_BClose_12 (_ : Unit) : EB := .seq (hid b_BClose_4) (hid b_BClose_11)
@[simp] def l_BClose_14 (_ : Unit) : List EOp := [xQ 6 23 (.bin .add (.t 19) (.t 22)), xQ 7 24 (.bin .gtr (.t 23) (.k (.int .i64 0)))]
@[simp] def l_BClose_13 (_ : Unit) : List EOp := xQ 0 17 (.fad 3 (.t 3)) :: xQ 1 18 (.ldc (.t 17)) :: xQ 2 19 (.len (.t 18)) :: xQ 3 20 (.fad 4 (.t 3)) :: xQ 4 21 (.ldc (.t 20)) :: xQ 5 22 (.len (.t 21)) :: hid l_BClose_14
@[simp] def b_BClose_15 (_ : Unit) : EB := reg0 (hid l_BClose_13) 8
@[simp] def l_BClose_16 (_ : Unit) : List EOp := [xQ 0 25 (.build [(.int .i64 0), (.slice none 0 0), (.slice none 0 0)] []), xQ 1 26 (.mki 120 (.k (.int .i64 31))), xN 2 (.fz (.sto 3 (.t 4) (.t 25))), xM 3 5 26]
@[simp] def b_BClose_17 (_ : Unit) : EB := reg0 (hid l_BClose_16) 4
@[simp] def b_BClose_18 (_ : Unit) : EB := .seq (hid b_BClose_17) .ret
@[simp] def b_BClose_19 (_ : Unit) : EB := .cond (.t 24) (hid b_BClose_18) .skip
@[simp] def b_BClose_20 (_ : Unit) : EB := .seq (hid b_BClose_15) (hid b_BClose_19)
@[simp] def l_BClose_22 (_ : Unit) : List EOp := [xN 6 (.fz (.sto 3 (.t 7) (.t 31)))]
@[simp] def l_BClose_21 (_ : Unit) : List EOp := xQ 0 27 (.fad 0 (.t 2)) :: xQ 1 28 (.lda 33 (.t 27)) :: xQ 2 29 (.build (zU8 ++ [(.int .i64 0), (.int .i64 0), (.slice none 0 0)]) [(0, 33, (.t 28))]) :: xO 3 30 (.fz (.q (.bsl 35 (zU8 ++ [(.int .i64 0), (.int .i64 0), (.slice none 0 0)]) 1 [(0, (.t 29))]))) :: xQ 4 31 (.build [(.int .i64 0), (.slice none 0 0), (.slice none 0 0)] [(1, 1, (.t 30))]) :: xQ 5 7 (.alloc 63 [(.int .i64 0), (.slice none 0 0), (.slice none 0 0)]) :: hid l_BClose_22
@[simp] def b_BClose_23 (_ : Unit) : EB := reg0 (hid l_BClose_21) 7
@[simp] def l_BClose_24 (_ : Unit) : List EOp := [xQ 0 32 (.mov (.k (.int .i64 0)))]
@[simp] def b_BClose_25 (_ : Unit) : EB := reg0 (hid l_BClose_24) 1
@[simp] def l_BClose_26 (_ : Unit) : List EOp := [xQ 0 33 (.bin .lss (.t 32) (.k (.int .i64 2)))]
@[simp] def b_BClose_27 (_ : Unit) : EB := reg0 (hid l_BClose_26) 1
@[simp] def b_BClose_28 (_ : Unit) : EB := .cond (.t 33) .skip (.exit 0)
@[simp] def l_BClose_29 (_ : Unit) : List EOp := [xM 0 34 32, xM 1 8 34]
@[simp] def b_BClose_30 (_ : Unit) : EB := reg0 (hid l_BClose_29) 2
@[simp] def l_BClose_31 (_ : Unit) : List EOp := [xQ 0 35 (.lda 38 (.t 2)), xQ 1 36 (.lda 5 (.t 3)), xM 2 37 8, xO 3 38 (.call 56 [(.t 35), (.t 36), (.t 37)]), xM 4 9 38]
@[simp] def b_BClose_32 (_ : Unit) : EB := reg0 (hid l_BClose_31) 5
@[simp] def l_BClose_33 (_ : Unit) : List EOp := [xM 0 39 9, xQ 1 40 (.bin .geq (.t 39) (.k (.int .i64 10)))]
@[simp] def b_BClose_34 (_ : Unit) : EB := reg0 (hid l_BClose_33) 2
@[simp] def l_BClose_37 (_ : Unit) : List EOp := [xQ 12 53 (.fad 2 (.t 7)), xN 13 (.fz (.sto 1 (.t 53) (.t 52)))]
@[simp] def l_BClose_36 (_ : Unit) : List EOp := xQ 6 47 (.ldc (.t 46)) :: xQ 7 48 (.bsl 1 [(.int .i64 0)] 1 [(0, (.t 47))]) :: ⟨8, (some 49), none, (.call 57 [(.t 48)]), [0, 1, 2]⟩ :: xQ 9 50 (.build [(.int .i64 0), (.slice none 0 0)] [(0, 1, (.t 43)), (1, 1, (.t 49))]) :: ⟨10, (some 51), none, (.fz (.q (.bsl 2 [(.int .i64 0), (.slice none 0 0)] 1 [(0, (.t 50))]))), [0, 1]⟩ :: xO 11 52 (.app 118 2 32 (.t 42) (.t 51)) :: hid l_BClose_37
@[simp] def l_BClose_35 (_ : Unit) : List EOp := xQ 0 41 (.fad 2 (.t 7)) :: xQ 1 42 (.ldc (.t 41)) :: xM 2 43 9 :: xM 3 44 8 :: xQ 4 45 (.fad 34 (.t 2)) :: xQ 5 46 (.iad 2 1 (.t 45) (.t 44)) :: hid l_BClose_36
@[simp] def b_BClose_38 (_ : Unit) : EB := reg1 (hid l_BClose_35) 14
@[simp] def b_BClose_39 (_ : Unit) : EB := .cond (.t 40) (hid b_BClose_38) .skip
@[simp] def b_BClose_40 (_ : Unit) : EB := .seq (hid b_BClose_34) (hid b_BClose_39)
@[simp] def b_BClose_41 (_ : Unit) : EB := .seq (hid b_BClose_32) (hid b_BClose_40)
@[simp] def b_BClose_42 (_ : Unit) : EB := .seq (hid b_BClose_30) (hid b_BClose_41)
@[simp] def b_BClose_43 (_ : Unit) : EB := .block 1 (hid b_BClose_42)
@[simp] def l_BClose_44 (_ : Unit) : List EOp := [xQ 0 54 (.bin .add (.t 32) (.k (.int .i64 1))), xM 1 32 54]
@[simp] def b_BClose_45 (_ : Unit) : EB := reg0 (hid l_BClose_44) 2
@[simp] def b_BClose_46 (_ : Unit) : EB := .seq (hid b_BClose_43) (hid b_BClose_45)
@[simp] def b_BClose_47 (_ : Unit) : EB := .seq (hid b_BClose_28) (hid b_BClose_46)
@[simp] def b_BClose_48 (_ : Unit) : EB := .seq (hid b_BClose_27) (hid b_BClose_47)
@[simp] def b_BClose_49 (_ : Unit) : EB := .loop (hid b_BClose_48)
@[simp] def b_BClose_50 (_ : Unit) : EB := .block 0 (hid b_BClose_49)
@[simp] def b_BClose_51 (_ : Unit) : EB := .seq (hid b_BClose_25) (hid b_BClose_50)
@[simp] def l_BClose_52 (_ : Unit) : List EOp := [xQ 0 55 (.lda 3 (.t 7)), xO 1 56 (.call 47 [(.t 55)]), xQ 2 57 (.ext 0 (.t 56)), xQ 3 58 (.ext 1 (.t 56)), xN 4 (.fz (.sto 3 (.t 4) (.t 57))), xM 5 5 58]
@[simp] def b_BClose_53 (_ : Unit) : EB := reg0 (hid l_BClose_52) 6
@[simp] def b_BClose_54 (_ : Unit) : EB := .seq (hid b_BClose_53) .ret
@[simp] def b_BClose_55 (_ : Unit) : EB := .seq (hid b_BClose_51) (hid b_BClose_54)
@[simp] def b_BClose_56 (_ : Unit) : EB := .seq (hid b_BClose_23) (hid b_BClose_55)
@[simp] def b_BClose_57 (_ : Unit) : EB := .seq (hid b_BClose_20) (hid b_BClose_56)
@[simp] def b_BClose_58 (_ : Unit) : EB := .seq (hid b_BClose_12) (hid b_BClose_57)
@[simp] def b_BClose_59 (_ : Unit) : EB := .seq (hid b_BClose_2) (hid b_BClose_58)
def c_BClose : EB × List QOp × Nat := ((hid b_BClose_59), [(.lda 3 (.t 4)), (.mov (.t 5))], 59)
theorem k_BClose : cfun Tryz.prog 23 = some c_BClose := by kernel_rfl
@[simp] def l_RBClose_1 (_ : Unit) : List EOp := [xQ 0 2 (.box 28 (.t 0)), xQ 1 3 (.box 32 (.t 1)), xQ 2 4 (.alloc 69 [(.int .i64 0), (.slice none 0 0), (.slice none 0 0)]), xQ 3 5 (.mov (.k (.int .i64 0)))]
@[simp] def b_RBClose_2 (_ : Unit) : EB := reg0 (hid l_RBClose_1) 4
@[simp] def l_RBClose_3 (_ : Unit) : List EOp := [xQ 0 8 (.lda 38 (.t 2)), xQ 1 9 (.lda 5 (.t 3)), xO 2 10 (.call 21 [(.t 8), (.t 9)]), xM 3 6 10]
@[simp] def b_RBClose_4 (_ : Unit) : EB := reg0 (hid l_RBClose_3) 4
@[simp] def l_RBClose_5 (_ : Unit) : List EOp := [xM 0 11 6, xQ 1 12 (.bin .neq (.t 11) (.k (.int .i64 0)))]
@[simp] def b_RBClose_6 (_ : Unit) : EB := reg0 (hid l_RBClose_5) 2
@[simp] def l_RBClose_7 (_ : Unit) : List EOp := [xQ 0 13 (.build [(.int .i64 0), (.slice none 0 0), (.slice none 0 0)] []), xM 1 14 6, xN 2 (.fz (.sto 3 (.t 4) (.t 13))), xM 3 5 14]
@[simp] def b_RBClose_8 (_ : Unit) : EB := reg0 (hid l_RBClose_7) 4
@[simp] def b_RBClose_9 (_ : Unit) : EB := .seq (hid b_RBClose_8) .ret
@[simp] def b_RBClose_10 (_ : Unit) : EB := .cond (.t 12) (hid b_RBClose_9) .skip
@[simp] def b_RBClose_11 (_ : Unit) : EB := .seq (hid b_RBClose_6) (hid b_RBClose_10)
@[simp] def l_RBClose_13 (_ : Unit) : List EOp := [xG 6 21 19 false (.ldc (.t 20)), xG 7 22 19 false (.len (.t 21)), xG 8 23 19 false (.bin .gtr (.t 22) (.k (.int .i64 0))), xQ 9 24 (.pick (.t 19) (.k (.bool true)) (.t 23))]
@[simp] def l_RBClose_12 (_ : Unit) : List EOp := xQ 0 15 (.fad 3 (.t 3)) :: xQ 1 16 (.ldc (.t 15)) :: xQ 2 17 (.len (.t 16)) :: xQ 3 18 (.bin .gtr (.t 17) (.k (.int .i64 0))) :: xM 4 19 18 :: xG 5 20 19 false (.fad 4 (.t 3)) :: hid l_RBClose_13
@[simp] def b_RBClose_14 (_ : Unit) : EB := reg0 (hid l_RBClose_12) 10
@[simp] def l_RBClose_15 (_ : Unit) : List EOp := [xQ 0 25 (.build [(.int .i64 0), (.slice none 0 0), (.slice none 0 0)] []), xN 1 (.fz (.sto 3 (.t 4) (.t 25))), xQ 2 5 (.mov (.k (.int .i64 31)))]
@[simp] def b_RBClose_16 (_ : Unit) : EB := reg0 (hid l_RBClose_15) 3
@[simp] def b_RBClose_17 (_ : Unit) : EB := .seq (hid b_RBClose_16) .ret
@[simp] def b_RBClose_18 (_ : Unit) : EB := .cond (.t 24) (hid b_RBClose_17) .skip
@[simp] def b_RBClose_19 (_ : Unit) : EB := .seq (hid b_RBClose_14) (hid b_RBClose_18)
@[simp] def l_RBClose_21 (_ : Unit) : List EOp := [xN 6 (.fz (.sto 3 (.t 7) (.t 30)))]
@[simp] def l_RBClose_20 (_ : Unit) : List EOp := xQ 0 26 (.fad 0 (.t 2)) :: xQ 1 27 (.lda 33 (.t 26)) :: xQ 2 28 (.build (zU8 ++ [(.int .i64 0), (.int .i64 0), (.slice none 0 0)]) [(0, 33, (.t 27))]) :: xO 3 29 (.fz (.q (.bsl 35 (zU8 ++ [(.int .i64 0), (.int .i64 0), (.slice none 0 0)]) 1 [(0, (.t 28))]))) :: xQ 4 30 (.build [(.int .i64 0), (.slice none 0 0), (.slice none 0 0)] [(1, 1, (.t 29))]) :: xQ 5 7 (.alloc 69 [(.int .i64 0), (.slice none 0 0), (.slice none 0 0)]) :: hid l_RBClose_21
@[simp] def b_RBClose_22 (_ : Unit) : EB := reg0 (hid l_RBClose_20) 7
@[simp] def l_RBClose_24 (_ : Unit) : List EOp := [xQ 6 37 (.bin .geq (.t 36) (.k (.int .i64 10)))]
@[simp] def l_RBClose_23 (_ : Unit) : List EOp := xQ 0 31 (.fad 1 (.t 3)) :: xQ 1 32 (.iad 2 1 (.t 31) (.k (.int .i64 0))) :: xQ 2 33 (.ldc (.t 32)) :: xQ 3 34 (.fad 37 (.t 2)) :: xQ 4 35 (.ldc (.t 34)) :: xQ 5 36 (.bin .sub (.t 33) (.t 35)) :: hid l_RBClose_24
@[simp] def b_RBClose_25 (_ : Unit) : EB := reg0 (hid l_RBClose_23) 7
@[simp] def l_RBClose_28 (_ : Unit) : List EOp := [⟨12, (some 50), none, (.call 58 [(.t 49)]), [0, 1, 2, 3, 4, 5, 6, 7]⟩, xQ 13 51 (.build [(.int .i64 0), (.slice none 0 0)] [(0, 1, (.t 45)), (1, 1, (.t 50))]), ⟨14, (some 52), none, (.fz (.q (.bsl 2 [(.int .i64 0), (.slice none 0 0)] 1 [(0, (.t 51))]))), [0, 1]⟩, xO 15 53 (.app 148 2 32 (.t 39) (.t 52)), xQ 16 54 (.fad 2 (.t 7)), xN 17 (.fz (.sto 1 (.t 54) (.t 53)))]
@[simp] def l_RBClose_27 (_ : Unit) : List EOp := xQ 6 44 (.ldc (.t 43)) :: xQ 7 45 (.bin .sub (.t 42) (.t 44)) :: xQ 8 46 (.fad 34 (.t 2)) :: xQ 9 47 (.iad 2 1 (.t 46) (.k (.int .i64 0))) :: xQ 10 48 (.ldc (.t 47)) :: xQ 11 49 (.bsl 1 [(.int .i64 0)] 1 [(0, (.t 48))]) :: hid l_RBClose_28
@[simp] def l_RBClose_26 (_ : Unit) : List EOp := xQ 0 38 (.fad 2 (.t 7)) :: xQ 1 39 (.ldc (.t 38)) :: xQ 2 40 (.fad 1 (.t 3)) :: xQ 3 41 (.iad 2 1 (.t 40) (.k (.int .i64 0))) :: xQ 4 42 (.ldc (.t 41)) :: xQ 5 43 (.fad 37 (.t 2)) :: hid l_RBClose_27
@[simp] def b_RBClose_29 (_ : Unit) : EB := reg1 (hid l_RBClose_26) 18
@[simp] def b_RBClose_30 (_ : Unit) : EB := .cond (.t 37) (hid b_RBClose_29) .skip
@[simp] def b_RBClose_31 (_ : Unit) : EB := .seq (hid b_RBClose_25) (hid b_RBClose_30)
@[simp] def l_RBClose_32 (_ : Unit) : List EOp := [xQ 0 55 (.fad 1 (.t 3)), xQ 1 56 (.iad 2 1 (.t 55) (.k (.int .i64 1))), xQ 2 57 (.ldc (.t 56)), xQ 3 58 (.bin .geq (.t 57) (.k (.int .i64 10)))]
@[simp] def b_RBClose_33 (_ : Unit) : EB := reg0 (hid l_RBClose_32) 4
@[simp] def l_RBClose_36 (_ : Unit) : List EOp := [xO 12 71 (.app 148 2 32 (.t 60) (.t 70)), xQ 13 72 (.fad 2 (.t 7)), xN 14 (.fz (.sto 1 (.t 72) (.t 71)))]
@[simp] def l_RBClose_35 (_ : Unit) : List EOp := xQ 6 65 (.iad 2 1 (.t 64) (.k (.int .i64 1))) :: xQ 7 66 (.ldc (.t 65)) :: xQ 8 67 (.bsl 1 [(.int .i64 0)] 1 [(0, (.t 66))]) :: ⟨9, (some 68), none, (.call 58 [(.t 67)]), [0, 1, 2, 3, 4]⟩ :: xQ 10 69 (.build [(.int .i64 0), (.slice none 0 0)] [(0, 1, (.t 63)), (1, 1, (.t 68))]) :: ⟨11, (some 70), none, (.fz (.q (.bsl 2 [(.int .i64 0), (.slice none 0 0)] 1 [(0, (.t 69))]))), [0, 1]⟩ :: hid l_RBClose_36
@[simp] def l_RBClose_34 (_ : Unit) : List EOp := xQ 0 59 (.fad 2 (.t 7)) :: xQ 1 60 (.ldc (.t 59)) :: xQ 2 61 (.fad 1 (.t 3)) :: xQ 3 62 (.iad 2 1 (.t 61) (.k (.int .i64 1))) :: xQ 4 63 (.ldc (.t 62)) :: xQ 5 64 (.fad 34 (.t 2)) :: hid l_RBClose_35
@[simp] def b_RBClose_37 (_ : Unit) : EB := reg1 (hid l_RBClose_34) 15
@[simp] def b_RBClose_38 (_ : Unit) : EB := .cond (.t 58) (hid b_RBClose_37) .skip
@[simp] def b_RBClose_39 (_ : Unit) : EB := .seq (hid b_RBClose_33) (hid b_RBClose_38)
@[simp] def l_RBClose_40 (_ : Unit) : List EOp := [xQ 0 73 (.lda 3 (.t 7)), xO 1 74 (.call 48 [(.t 73)]), xQ 2 75 (.ext 0 (.t 74)), xQ 3 76 (.ext 1 (.t 74)), xN 4 (.fz (.sto 3 (.t 4) (.t 75))), xM 5 5 76]
@[simp] def b_RBClose_41 (_ : Unit) : EB := reg0 (hid l_RBClose_40) 6
@[simp] def b_RBClose_42 (_ : Unit) : EB := .seq (hid b_RBClose_41) .ret
@[simp] def b_RBClose_43 (_ : Unit) : EB := .seq (hid b_RBClose_39) (hid b_RBClose_42)
@[simp] def b_RBClose_44 (_ : Unit) : EB := .seq (hid b_RBClose_31) (hid b_RBClose_43)
@[simp] def b_RBClose_45 (_ : Unit) : EB := .seq (hid b_RBClose_22) (hid b_RBClose_44)
@[simp] def b_RBClose_46 (_ : Unit) : EB := .seq (hid b_RBClose_19) (hid b_RBClose_45)
@[simp] def b_RBClose_47 (_ : Unit) : EB := .seq (hid b_RBClose_11) (hid b_RBClose_46)
@[simp] def b_RBClose_48 (_ : Unit) : EB := .seq (hid b_RBClose_4) (hid b_RBClose_47)
@[simp] def b_RBClose_49 (_ : Unit) : EB := .seq (hid b_RBClose_2) (hid b_RBClose_48)
def c_RBClose : EB × List QOp × Nat := ((hid b_RBClose_49), [(.lda 3 (.t 4)), (.mov (.t 5))], 77)
theorem k_RBClose : cfun Tryz.prog 24 = some c_RBClose := by kernel_rfl
def cloO (p : Prm) (s : Sta) (w : Int) : List Outp := if 10 ≤ hasP p s w then [⟨hasP p s w, allB [keyO p w]⟩] else []
def cloT (p : Prm) (s : Sta) : Txn := ⟨0, [⟨p.tx, p.n, 0, []⟩], cloO p s 0 ++ cloO p s 1⟩
def cloB (p : Prm) (s : Sta) : Txn × Nat :=
  if bldE p s ≠ 0 then (zTx, bldE p s) else if 0 < s.pays.length + s.holds.length then (zTx, 31) else donT (cloT p s)
theorem cloO_ok {p : Prm} {s : Sta} {w : Int} (hp : p.ok) (hs : s.ok) (h : i64 (s.h0 - p.fe)) : (∀ x ∈ cloO p s w, x.ok ∧ x.sm) ∧ (cloO p s w).length ≤ 1 := by
  have hh : i64 (hasP p s w) := by unfold hasP; split; exact h; exact hs.2.2.1
  have hz' : hz.length = 32 := rfl
  unfold cloO
  split
  · refine ⟨?_, by simp⟩
    intro x hx
    simp at hx
    subst hx
    refine ⟨⟨hh, ?_, by simp [allB]⟩, ?_, by simp [allB]⟩
    · intro b hb
      simp [allB] at hb
      subst hb
      rw [(keys_one _).2]
      exact ⟨by intro k hk; simp at hk; subst hk; exact keyO_i64 hp _, hz', by simp [i64], by simp [i64], by simp⟩
    · intro b hb
      simp [allB] at hb
      subst hb
      exact ⟨hz', by simp [insN_len]⟩
  · simp
theorem cloT_ok {p : Prm} {s : Sta} (hp : p.ok) (hs : s.ok) (h : i64 (s.h0 - p.fe)) : (cloT p s).ok ∧ (cloT p s).sm := by
  obtain ⟨a1, a2⟩ := cloO_ok (w := 0) hp hs h
  obtain ⟨b1, b2⟩ := cloO_ok (w := 1) hp hs h
  have hm : ∀ x ∈ cloO p s 0 ++ cloO p s 1, x.ok ∧ x.sm := by
    intro x hx
    rcases List.mem_append.1 hx with hx | hx
    · exact a1 x hx
    · exact b1 x hx
  have hn : (cloO p s 0 ++ cloO p s 1).length ≤ 2 := by rw [List.length_append]; omega
  refine ⟨⟨by simp [cloT, i64], ?_, fun x hx => (hm x hx).1, by simp [cloT], by show (cloO p s 0 ++ cloO p s 1).length ≤ _; omega⟩, ?_, fun x hx => (hm x hx).2, by simp [cloT], by show (cloO p s 0 ++ cloO p s 1).length ≤ _; omega⟩
  · intro x hx
    simp [cloT] at hx
    subst hx
    exact ⟨hp.1, hp.2.1, by simp [i64], by simp⟩
  · intro x hx
    simp [cloT] at hx
    subst hx
    exact ⟨hp.1, by simp⟩
theorem cloB_ok {p : Prm} {s : Sta} (hp : p.ok) (hs : s.ok) : (cloB p s).1.ok ∧ (cloB p s).1.sm := by
  unfold cloB
  split
  · exact zTx_okS
  rename_i c
  split
  · exact zTx_okS
  exact donT_ok (cloT_ok hp hs (outs_cond (Classical.not_not.1 c)).1)
def cloK (p : Prm) (s : Sta) (i : Nat) : List Outp := if i = 0 then [] else if i = 1 then cloO p s 0 else cloO p s 0 ++ cloO p s 1
theorem clo_ins (p : Prm) (s : Sta) : (inpv (cloT p s).ins).map (·.map gN) = [(hf p.tx ++ [iF p.n, iF 0]) ++ [.lit (.slice none 0 0)]] := by
  have h : ∀ l : List UInt8, (hf l).map gN = hf l := fun l => by have := hf_gN l []; simpa using this
  simp [cloT, inpv, inpF, h, gN, iF]
set_option maxRecDepth 8000 in
set_option maxHeartbeats 16000000 in
theorem BClose_ok (p : Prm) (s : Sta) (hp : p.ok) (hs : s.ok) : ECalls Tryz.prog 23 [PVv p, SV s] [] fun y H' => H' = [] ∧ y = .tup [.agg (txC (cloB p s).1), .c (.fz (.lit (errV (cloB p s).2)))] := by
  have h1 := hp.1
  have lp := prmC_len h1
  have tp := pm_take h1
  have t33 := pm_33 h1
  have e34 := idx_of (pm_at h1 2) (by omega)
  have e35 := idx_of (pm_at h1 3) (by omega)
  obtain ⟨ok1, ok2, ok3, ok4, ok5, ok6, ok7⟩ := id hs
  have w0 : IntKind.i64.wrap ((s.pays.length : Int) + (s.holds.length : Int)) = ((s.pays.length + s.holds.length : Nat) : Int) := by rw [wrap_i64 (by omega) (by omega)]; simp
  refine ecalls k_BClose ?_
  simp [c_BClose, PVv, SV, staC, I, lp, tp, -errV_0]
  refine call0 (BCheck_ok p s hp hs) (by simp [PVv, SV, staC]) ?_
  rintro y H' ⟨rfl, rfl⟩
  refine ⟨.inl (by simp), le_ok rfl, ?_⟩
  by_cases c : bldE p s = 0
  rotate_left
  · rw [show cloB p s = (zTx, bldE p s) from if_pos c]
    simp [c, -errV_0]
    refine finW _ (weak_nlB (o := 32) (k := 1) 35 rfl rfl) (finW _ (weak_nlB (o := 32) (k := 2) 2 rfl rfl) ?_)
    exact fin [] (by decide) rfl rfl rfl ⟨rfl, rfl⟩
  obtain ⟨k1, k2, k3, k4⟩ := outs_cond c
  simp [c, w0, -Int.natCast_add, -errV_0]
  refine alt (fun c2 => ?_) (fun c2 => ?_)
  · rw [show cloB p s = (zTx, 31) by unfold cloB; rw [if_neg (by simpa using c), if_pos (by omega)]]
    simp [-errV_0]
    refine finW _ (weak_nlB (o := 32) (k := 1) 35 rfl rfl) (finW _ (weak_nlB (o := 32) (k := 2) 2 rfl rfl) ?_)
    exact fin [] (by decide) rfl rfl rfl ⟨rfl, rfl⟩
  rw [show cloB p s = donT (cloT p s) by unfold cloB; rw [if_neg (by simpa using c), if_neg (by omega)]]
  simp [lp, t33, iC, drop33i, h1, frzAll_hc, -errV_0]
  refine loopW _ (weak_nil (o := 368) (k := 2) (ty := 118) (es := 2) rfl rfl (by omega)) ?_
  have hK : ∀ i, (cloK p s i).length ≤ 2 := by
    intro i
    have b0 := (cloO_ok (w := 0) hp hs k1).2
    have b1 := (cloO_ok (w := 1) hp hs k1).2
    unfold cloK
    split
    · simp
    split
    · omega
    · rw [List.length_append]; omega
  obtain ⟨K, hKd⟩ : ∃ K : Nat → List Outp, K = cloK p s := ⟨_, rfl⟩
  have hK0 : K 0 = [] := by rw [hKd]; rfl
  have hK1 : K 1 = cloO p s 0 := by rw [hKd]; rfl
  have hK2 : K 2 = K 1 ++ cloO p s 1 := by rw [hKd]; rfl
  rw [← hKd] at hK
  obtain ⟨In, hIn⟩ : ∃ In : List (List FV), In = [hf p.tx ++ [iF p.n, iF 0, .lit (.slice none 0 0)]] := ⟨_, rfl⟩
  refine eloop (α := Nat) (fun i => i ≤ 2) (fun i => 2 - i)
    (fun i => [.any, .any, Ptr 0, Ptr 1, Ptr 2, .any, .any, Ptr 3, .any, .any, .any, .any, .any, .any, .any, .any, .any, .any, .any, .any, .any, .any, .any, .any, .any, .any, .any, .any, .any, .any, .any, .any, I .i64 i, .any, .any, .any, .any, .any, .any, .any, .any, .any, .any, .any, .any, .any, .any, .any, .any, .any, .any, .any, .any, .any, .any, .any, .any, .any, .any]) (fun i => [some (.box 42 (prmC p)), some (.box 47 (staC s)), some (.box 63 [iC 0, .fz (.lit (.slice none 0 0)), .fz (.lit (.slice none 0 0))]), some (.box 63 [iC 0, .fz (.sl 35 In), .row 4 (K i).length]), some (.row 118 2 (outv (K i)))]) 0 [0, 16, 32, 368, 416]
    (by omega) (by simp [I, Ptr]) (by simp [staC, iC, iF, hIn, hK0, outv]) (by simp) (by simp) (by simp) ?_
  intro i hi
  have hKi := hK i
  simp [I, Ptr, staC, iC, lp, tp, -errV_0]
  obtain rfl | rfl | rfl : i = 0 ∨ i = 1 ∨ i = 2 := by omega
  · have u1 : IntKind.i64.wrap 1 = 1 := by decide +kernel
    simp [I, Ptr, lp, tp, u1, iC, -errV_0]
    refine call0 (BHas_ok p s 0 h1 k1) (by simp [PVv, SV, staC, I]) ?_
    rintro y H' ⟨rfl, rfl⟩
    refine ⟨.inl (by simp [I]), le_ok rfl, ?_⟩
    simp [I, lp, tp, e34, e35, iC, -errV_0]
    refine alt (fun c3 => ?_) (fun c3 => ?_)
    · have hv : K 1 = K 0 ++ [⟨hasP p s 0, allB [keyO p 0]⟩] := by rw [hK1, hK0]; exact if_pos c3
      have hl' := congrArg List.length hv
      simp only [List.length_append, List.length_singleton] at hl'
      simp [I, lp, tp, e34, e35, iC, -errV_0]
      refine call0 (PAll_ok [p.k0] (keys_one _).1) (by simp [IL, intv]) ?_
      rintro y H' ⟨rfl, rfl⟩
      refine ⟨.inl (by simp [CNv]), le_ok rfl, ?_⟩
      simp [CNv, u1, -errV_0]
      refine ⟨⟨by omega, by omega⟩, ?_⟩
      refine round 1 [0, 1, 2, 3, 341] (by omega) (by omega) (by simp [I, Ptr]) ?_ (by simp) (by simp) (by simp)
      rw [hv]
      simp [hl', staC, iC, outv, outF, iF, keyO]
    · have hv : K 1 = K 0 := by rw [hK1, hK0]; exact if_neg c3
      simp [u1, -errV_0]
      refine round 1 [0, 1, 2, 3, 4] (by omega) (by omega) (by simp [I, Ptr]) ?_ (by simp) (by simp) (by simp)
      rw [hv]
      simp [staC, iC]
  · have u1 : IntKind.i64.wrap 2 = 2 := by decide +kernel
    simp [I, Ptr, lp, tp, u1, iC, -errV_0]
    refine call0 (BHas_ok p s 1 h1 k1) (by simp [PVv, SV, staC, I]) ?_
    rintro y H' ⟨rfl, rfl⟩
    refine ⟨.inl (by simp [I]), le_ok rfl, ?_⟩
    simp [I, lp, tp, e34, e35, iC, -errV_0]
    refine alt (fun c3 => ?_) (fun c3 => ?_)
    · have hv : K 2 = K 1 ++ [⟨hasP p s 1, allB [keyO p 1]⟩] := by rw [hK2]; congr 1; exact if_pos c3
      have hl' := congrArg List.length hv
      simp only [List.length_append, List.length_singleton] at hl'
      simp [I, lp, tp, e34, e35, iC, -errV_0]
      refine call0 (PAll_ok [p.k1] (keys_one _).1) (by simp [IL, intv]) ?_
      rintro y H' ⟨rfl, rfl⟩
      refine ⟨.inl (by simp [CNv]), le_ok rfl, ?_⟩
      simp [CNv, u1, -errV_0]
      refine ⟨⟨by omega, by omega⟩, ?_⟩
      refine round 2 [0, 1, 2, 3, 341] (by omega) (by omega) (by simp [I, Ptr]) ?_ (by simp) (by simp) (by simp)
      rw [hv]
      simp [hl', staC, iC, outv, outF, iF, keyO]
    · have hv : K 2 = K 1 := by rw [hK2, show cloO p s 1 = [] from if_neg c3, List.append_nil]
      simp [u1, -errV_0]
      refine round 2 [0, 1, 2, 3, 4] (by omega) (by omega) (by simp [I, Ptr]) ?_ (by simp) (by simp) (by simp)
      rw [hv]
      simp [staC, iC]
  have hKo : outv (K 2) = outv (cloT p s).outs := by rw [hK2, hK1]; rfl
  have hKn : (K 2).length = (outv (cloT p s).outs).length := by rw [← hKo]; simp
  have hC := BDone_ok (cloT p s) (cloT_ok hp hs k1).1
  have hC' : ECalls Tryz.prog 47 [.v (.agg [iC 0, .fz (.sl 35 In), .fz (.sl 2 (outv (cloT p s).outs))])] [] (fun y H' => H' = [] ∧ y = .tup [.agg (txC (donT (cloT p s)).1), .c (.fz (.lit (errV (donT (cloT p s)).2)))]) := by
    have := ecalls_nlG hC
    rw [clo_ins, List.append_assoc] at this
    rw [hIn]
    exact this
  have hT : ECalls Tryz.prog 47 [.v (.agg [iC 0, .fz (.sl 35 In), .row 0 (K 2).length])] [.row 118 2 (outv (K 2))] (fun y H' => H' = [none] ∧ y = .tup [.agg (txC (donT (cloT p s)).1), .c (.fz (.lit (errV (donT (cloT p s)).2)))]) :=
    ecalls_thaw hC' (by simp [iC, hKo, hKn, List.take_of_length_le])
  simp [-errV_0]
  refine callH [4] hT (by simp [iC]) (by simp) (by simp) (by simp) (by simp) ?_
  rintro y H' ⟨rfl, rfl⟩
  refine ⟨.inl (by simp), by simp, ?_⟩
  simp [txC, iC, -errV_0]
  exact fin [] (by decide) rfl rfl rfl ⟨rfl, rfl⟩
theorem cAll_ok' (ks : List Int) (h : KeysOK ks) : ECalls Tryz.prog 58 [IL ks] [] fun y H' => H' = [] ∧ y = CNv (allB ks) := by
  obtain ⟨h1, h2, h3, h4, h5, h6⟩ := h
  have := cAll_ok ks h5 (by omega)
  rw [h6] at this
  exact this
theorem ecalls_nlO {P : Program} {f : FuncId} {e : Nat} {a b : EC} {rest : List EV} {H : List EO} {post : EV → List (Option EO) → Prop} (h : ECalls P f (.v (.agg [a, b, .fz (.sl e [])]) :: rest) H post) :
    ECalls P f (.v (.agg [a, b, .fz (.lit (.slice none 0 0))]) :: rest) H post := by
  intro ρ Φ w vals r' ha
  refine h ρ Φ w vals r' ?_
  obtain ⟨u, us, rfl, h1, h2⟩ := ha.cons_left
  refine All2.cons ?_ h2
  obtain ⟨vs, rfl, hv⟩ := h1
  refine ⟨vs, rfl, by simpa using hv.1, ?_⟩
  intro i x y hx hy
  rcases i with _ | _ | _ | i
  · exact hv.2 0 x y hx hy
  · exact hv.2 1 x y hx hy
  · have := hv.2 2 _ y rfl hy
    simp at hx; subst hx
    exact nl_vr this
  · simp at hx
set_option maxRecDepth 8000 in
set_option maxHeartbeats 16000000 in
theorem RBClose_ok (p : Prm) (s : Sta) (hp : p.ok) (hs : s.ok) : ECalls Tryz.prog 24 [PVv p, SV s] [] fun y H' => H' = [] ∧ y = .tup [.agg (txC (cloB p s).1), .c (.fz (.lit (.int .i64 (cloB p s).2)))] := by
  have h1 := hp.1
  have lp := prmC_len h1
  have tp := pm_take h1
  have t33 := pm_33 h1
  have e34 := idx_of (pm_at h1 2) (by omega)
  have e35 := idx_of (pm_at h1 3) (by omega)
  have e37 := idx_of (pm_at h1 5) (by omega)
  obtain ⟨ok1, ok2, ok3, ok4, ok5, ok6, ok7⟩ := id hs
  refine ecalls k_RBClose ?_
  simp [c_RBClose, PVv, SV, staC, I, lp, tp]
  refine call0 (RBCheck_ok p s hp hs) (by simp [PVv, SV, staC]) ?_
  rintro y H' ⟨rfl, rfl⟩
  refine ⟨.inl (by simp [I]), le_ok rfl, ?_⟩
  by_cases c : bldE p s = 0
  rotate_left
  · rw [show cloB p s = (zTx, bldE p s) from if_pos c]
    simp [c, I]
    refine finW _ (weak_nlB (o := 32) (k := 1) 35 rfl rfl) (finW _ (weak_nlB (o := 32) (k := 2) 2 rfl rfl) ?_)
    exact fin [] (by decide) rfl rfl rfl ⟨rfl, rfl⟩
  obtain ⟨k1, k2, k3, k4⟩ := outs_cond c
  have wh : IntKind.i64.wrap (s.h0 - p.fe) = s.h0 - p.fe := by unfold i64 at k1; exact wrap_i64 (by omega) (by omega)
  simp [c, I]
  by_cases c2 : 0 < s.pays.length + s.holds.length
  · rw [show cloB p s = (zTx, 31) by unfold cloB; rw [if_neg (by simpa using c), if_pos (by omega)]]
    refine alt (fun c5 => ?_) (fun c5 => ?_)
    · have c6 : ¬ s.holds = [] := by rintro q; rw [c5, q] at c2; simp at c2
      have c7 : 0 < s.holds.length := List.length_pos_iff.2 c6
      simp [c5, c6, c7]
      refine finW _ (weak_nlB (o := 32) (k := 1) 35 rfl rfl) (finW _ (weak_nlB (o := 32) (k := 2) 2 rfl rfl) ?_)
      exact fin [] (by decide) rfl rfl rfl ⟨rfl, rfl⟩
    · have c7 : 0 < s.pays.length := List.length_pos_iff.2 c5
      simp [c5, c7]
      refine finW _ (weak_nlB (o := 32) (k := 1) 35 rfl rfl) (finW _ (weak_nlB (o := 32) (k := 2) 2 rfl rfl) ?_)
      exact fin [] (by decide) rfl rfl rfl ⟨rfl, rfl⟩
  rw [show cloB p s = donT (cloT p s) by unfold cloB; rw [if_neg (by simpa using c), if_neg c2]]
  have c7 : s.pays = [] := List.length_eq_zero_iff.1 (by omega)
  have c8 : s.holds = [] := List.length_eq_zero_iff.1 (by omega)
  obtain ⟨In, hIn⟩ : ∃ In : List (List FV), In = [hf p.tx ++ [iF p.n, iF 0, .lit (.slice none 0 0)]] := ⟨_, rfl⟩
  have hD : ∀ L, L = (cloT p s).outs → ECalls Tryz.prog 48 [.v (.agg [iC 0, .fz (.sl 35 In), .fz (.sl 2 (outv L))])] [] (fun y H' => H' = [] ∧ y = .tup [.agg (txC (donT (cloT p s)).1), .c (.fz (.lit (.int .i64 (donT (cloT p s)).2)))]) := by
    rintro L rfl
    have := ecalls_nlG (RDone_ok (cloT p s) (cloT_ok hp hs k1).1)
    rw [clo_ins, List.append_assoc] at this
    rw [hIn]
    exact this
  simp [c7, c8, PVv, SV, staC, I, lp, tp, t33, iC, drop33i, h1, frzAll_hc, e34, e35, e37, wh]
  by_cases c3 : 10 ≤ s.h0 - p.fe
  · have hv0 : cloO p s 0 = [⟨s.h0 - p.fe, allB [p.k0]⟩] := if_pos c3
    simp [c3, PVv, SV, staC, I, lp, tp, t33, iC, drop33i, h1, frzAll_hc, e34, e35, e37, wh]
    refine call0 (cAll_ok' [p.k0] (keys_one _).1) (by simp [IL, intv]) ?_
    rintro y H' ⟨rfl, rfl⟩
    refine ⟨.inl (by simp [CNv]), le_ok rfl, ?_⟩
    simp [CNv, PVv, SV, staC, I, lp, tp, t33, iC, drop33i, h1, frzAll_hc, e34, e35, e37, wh]
    by_cases c4 : 10 ≤ s.h1
    · have hv1 : cloO p s 1 = [⟨s.h1, allB [p.k1]⟩] := if_pos c4
      have hcl : (cloT p s).outs = [⟨s.h0 - p.fe, allB [p.k0]⟩] ++ [⟨s.h1, allB [p.k1]⟩] := by show cloO p s 0 ++ cloO p s 1 = _; rw [hv0, hv1]
      simp [c4, PVv, SV, staC, I, lp, tp, t33, iC, drop33i, h1, frzAll_hc, e34, e35, e37, wh]
      refine call0 (cAll_ok' [p.k1] (keys_one _).1) (by simp [IL, intv]) ?_
      rintro y H' ⟨rfl, rfl⟩
      refine ⟨.inl (by simp [CNv]), le_ok rfl, ?_⟩
      simp [CNv, PVv, SV, staC, I, lp, tp, t33, iC, drop33i, h1, frzAll_hc, e34, e35, e37, wh]
      have hx := (rfl : (0 : Nat) = 0)
      have hT : ECalls Tryz.prog 48 [.v (.agg [iC 0, .fz (.sl 35 In), .row 0 2])] [.row 148 2 (outv (cloT p s).outs)] (fun y H' => H' = [none] ∧ y = .tup [.agg (txC (donT (cloT p s)).1), .c (.fz (.lit (.int .i64 (donT (cloT p s)).2)))]) :=
        ecalls_thaw (hD _ rfl) (by rw [hcl]; simp [iC, outv, List.take_of_length_le])
      rw [hcl] at hT
      refine callH [1088] hT (by simp [iC, hIn, iF]) (by simp [outv, outF, iF, keyO]) (by simp) (by simp) (by simp) ?_
      rintro y H' ⟨rfl, rfl⟩
      refine ⟨.inl (by simp), by simp, ?_⟩
      simp [txC, iC, hx]
      exact fin [] (by decide) rfl rfl rfl ⟨rfl, rfl⟩
    · have hv1 : cloO p s 1 = [] := if_neg c4
      have hcl : (cloT p s).outs = [⟨s.h0 - p.fe, allB [p.k0]⟩] ++ [] := by show cloO p s 0 ++ cloO p s 1 = _; rw [hv0, hv1]
      simp [c4, PVv, SV, staC, I, lp, tp, t33, iC, drop33i, h1, frzAll_hc, e34, e35, e37, wh]
      have hx := (rfl : (0 : Nat) = 0)
      have hT : ECalls Tryz.prog 48 [.v (.agg [iC 0, .fz (.sl 35 In), .row 0 1])] [.row 148 2 (outv (cloT p s).outs)] (fun y H' => H' = [none] ∧ y = .tup [.agg (txC (donT (cloT p s)).1), .c (.fz (.lit (.int .i64 (donT (cloT p s)).2)))]) :=
        ecalls_thaw (hD _ rfl) (by rw [hcl]; simp [iC, outv, List.take_of_length_le])
      rw [hcl] at hT
      refine callH [784] hT (by simp [iC, hIn, iF]) (by simp [outv, outF, iF, keyO]) (by simp) (by simp) (by simp) ?_
      rintro y H' ⟨rfl, rfl⟩
      refine ⟨.inl (by simp), by simp, ?_⟩
      simp [txC, iC, hx]
      exact fin [] (by decide) rfl rfl rfl ⟨rfl, rfl⟩
  · have hv0 : cloO p s 0 = [] := if_neg c3
    simp [c3, PVv, SV, staC, I, lp, tp, t33, iC, drop33i, h1, frzAll_hc, e34, e35, e37, wh]
    by_cases c4 : 10 ≤ s.h1
    · have hv1 : cloO p s 1 = [⟨s.h1, allB [p.k1]⟩] := if_pos c4
      have hcl : (cloT p s).outs = [] ++ [⟨s.h1, allB [p.k1]⟩] := by show cloO p s 0 ++ cloO p s 1 = _; rw [hv0, hv1]
      simp [c4, PVv, SV, staC, I, lp, tp, t33, iC, drop33i, h1, frzAll_hc, e34, e35, e37, wh]
      refine call0 (cAll_ok' [p.k1] (keys_one _).1) (by simp [IL, intv]) ?_
      rintro y H' ⟨rfl, rfl⟩
      refine ⟨.inl (by simp [CNv]), le_ok rfl, ?_⟩
      simp [CNv, PVv, SV, staC, I, lp, tp, t33, iC, drop33i, h1, frzAll_hc, e34, e35, e37, wh]
      have hx := (rfl : (0 : Nat) = 0)
      have hT : ECalls Tryz.prog 48 [.v (.agg [iC 0, .fz (.sl 35 In), .row 0 1])] [.row 148 2 (outv (cloT p s).outs)] (fun y H' => H' = [none] ∧ y = .tup [.agg (txC (donT (cloT p s)).1), .c (.fz (.lit (.int .i64 (donT (cloT p s)).2)))]) :=
        ecalls_thaw (hD _ rfl) (by rw [hcl]; simp [iC, outv, List.take_of_length_le])
      rw [hcl] at hT
      refine callH [800] hT (by simp [iC, hIn, iF]) (by simp [outv, outF, iF, keyO]) (by simp) (by simp) (by simp) ?_
      rintro y H' ⟨rfl, rfl⟩
      refine ⟨.inl (by simp), by simp, ?_⟩
      simp [txC, iC, hx]
      exact fin [] (by decide) rfl rfl rfl ⟨rfl, rfl⟩
    · have hv1 : cloO p s 1 = [] := if_neg c4
      have hcl : (cloT p s).outs = [] ++ [] := by show cloO p s 0 ++ cloO p s 1 = _; rw [hv0, hv1]
      simp [c4, PVv, SV, staC, I, lp, tp, t33, iC, drop33i, h1, frzAll_hc, e34, e35, e37, wh]
      have hx := (rfl : (0 : Nat) = 0)
      refine call0 (ecalls_nlO (hD [] (by rw [hcl]; rfl))) (by simp [iC, hIn, iF]) ?_
      rintro y H' ⟨rfl, rfl⟩
      refine ⟨.inl (by simp [txC, iC]), le_ok rfl, ?_⟩
      simp [txC, iC, hx]
      exact fin [] (by decide) rfl rfl rfl ⟨rfl, rfl⟩
end Go.Proofs.YtflcfdeanneoeaaGreatDoor
namespace Go.Proofs.YtflcfdeanneoeaaGreatDoor
open Go Go.EW
set_option linter.unusedSimpArgs false
set_option linter.unusedVariables false
@[simp] def l_BuildCloses_1 (_ : Unit) : List EOp := [xQ 0 2 (.box 28 (.t 0)), xQ 1 3 (.box 32 (.t 1)), xQ 2 4 (.mov (.k (.bool false)))]
@[simp] def b_BuildCloses_2 (_ : Unit) : EB := reg0 (hid l_BuildCloses_1) 3
@[simp] def l_BuildCloses_3 (_ : Unit) : List EOp := [xQ 0 9 (.lda 5 (.t 3)), xO 1 10 (.call 11 [(.t 9)])]
@[simp] def b_BuildCloses_4 (_ : Unit) : EB := reg0 (hid l_BuildCloses_3) 2
@[simp] def l_BuildCloses_5 (_ : Unit) : List EOp := [xO 0 11 (.call 12 []), xM 1 4 11]
@[simp] def b_BuildCloses_6 (_ : Unit) : EB := reg0 (hid l_BuildCloses_5) 2
@[simp] def b_BuildCloses_7 (_ : Unit) : EB := .seq (hid b_BuildCloses_6) .ret
@[simp] def b_BuildCloses_8 (_ : Unit) : EB := .cond (.t 10) (hid b_BuildCloses_7) .skip
@[simp] def b_BuildCloses_9 (_ : Unit) : EB := .seq (hid b_BuildCloses_4) (hid b_BuildCloses_8)
@[simp] def l_BuildCloses_11 (_ : Unit) : List EOp := [xM 5 12 17, xQ 6 18 (.ext 0 (.t 12)), xQ 7 19 (.ext 1 (.t 12)), ⟨9, none, none, (.fz (.sto 3 (.t 5) (.t 18))), [7]⟩, xM 10 6 19]
@[simp] def l_BuildCloses_10 (_ : Unit) : List EOp := xQ 0 13 (.lda 38 (.t 2)) :: xQ 2 15 (.lda 5 (.t 3)) :: xQ 8 5 (.alloc 63 [(.int .i64 0), (.slice none 0 0), (.slice none 0 0)]) :: ⟨1, (some 14), none, (.call 14 [(.t 13)]), [2, 8]⟩ :: ⟨3, (some 16), none, (.call 15 [(.t 15)]), [8]⟩ :: ⟨4, (some 17), none, (.call 23 [(.t 14), (.t 16)]), [8]⟩ :: hid l_BuildCloses_11
@[simp] def b_BuildCloses_12 (_ : Unit) : EB := reg1 (hid l_BuildCloses_10) 11
@[simp] def l_BuildCloses_14 (_ : Unit) : List EOp := [xQ 6 7 (.alloc 69 [(.int .i64 0), (.slice none 0 0), (.slice none 0 0)]), xN 7 (.fz (.sto 3 (.t 7) (.t 24))), xM 8 8 25]
@[simp] def l_BuildCloses_13 (_ : Unit) : List EOp := xQ 0 21 (.lda 38 (.t 2)) :: xQ 1 22 (.lda 5 (.t 3)) :: xO 2 23 (.call 24 [(.t 21), (.t 22)]) :: xM 3 20 23 :: xQ 4 24 (.ext 0 (.t 20)) :: xQ 5 25 (.ext 1 (.t 20)) :: hid l_BuildCloses_14
@[simp] def b_BuildCloses_15 (_ : Unit) : EB := reg0 (hid l_BuildCloses_13) 9
@[simp] def l_BuildCloses_17 (_ : Unit) : List EOp := [⟨6, (some 32), (some (31, true)), (.call 12 []), []⟩, xQ 7 33 (.pick (.t 31) (.t 32) (.k (.bool false))), xM 8 4 33]
@[simp] def l_BuildCloses_16 (_ : Unit) : List EOp := xQ 0 26 (.lda 3 (.t 5)) :: xM 1 27 6 :: xQ 2 28 (.lda 3 (.t 7)) :: xM 3 29 8 :: xO 4 30 (.call 22 [(.t 26), (.t 27), (.t 28), (.t 29)]) :: xM 5 31 30 :: hid l_BuildCloses_17
@[simp] def b_BuildCloses_18 (_ : Unit) : EB := reg0 (hid l_BuildCloses_16) 9
@[simp] def b_BuildCloses_19 (_ : Unit) : EB := .seq (hid b_BuildCloses_18) .ret
@[simp] def b_BuildCloses_20 (_ : Unit) : EB := .seq (hid b_BuildCloses_15) (hid b_BuildCloses_19)
@[simp] def b_BuildCloses_21 (_ : Unit) : EB := .seq (hid b_BuildCloses_12) (hid b_BuildCloses_20)
@[simp] def b_BuildCloses_22 (_ : Unit) : EB := .seq (hid b_BuildCloses_9) (hid b_BuildCloses_21)
@[simp] def b_BuildCloses_23 (_ : Unit) : EB := .seq (hid b_BuildCloses_2) (hid b_BuildCloses_22)
def c_BuildCloses : EB × List QOp × Nat := ((hid b_BuildCloses_23), [(.mov (.t 4))], 34)
theorem k_BuildCloses : cfun Tryz.prog 5 = some c_BuildCloses := by kernel_rfl
set_option maxRecDepth 8000 in
set_option maxHeartbeats 16000000 in
theorem BuildCloses_ok (p : Prm) (s : Sta) (hp : p.ok) (hs : s.ok) : ECalls Tryz.prog 5 [PVv p, SV s] [] fun y H' => H' = [] ∧ y = .lit (.bool true) := by
  have h1 := hp.1
  have lp := prmC_len h1
  have tp := pm_take h1
  refine ecalls k_BuildCloses ?_
  simp [c_BuildCloses, PVv, SV, staC, I, lp, tp, iC, -errV_0]
  refine call0 (longState_ok s hs) (by simp [SV, staC]) ?_
  rintro y H' ⟨rfl, rfl⟩
  refine ⟨.inl (by simp), le_ok rfl, ?_⟩
  cases hl1 : longS s
  rotate_left
  · simp [-errV_0]
    refine call0 sure_ok (by simp) ?_
    rintro y H' ⟨rfl, rfl⟩
    refine ⟨.inl (by simp), le_ok rfl, ?_⟩
    simp [-errV_0]
    exact fin [] (by decide) rfl rfl rfl ⟨rfl, rfl⟩
  have ms := (longS_small hl1).1
  simp [PVv, SV, staC, I, lp, tp, iC, -errV_0]
  refine call0 (giveP_ok p h1) (by simp [PVv]) ?_
  rintro y H' ⟨rfl, rfl⟩
  refine ⟨.inl (by simp [PVv]), le_ok rfl, ?_⟩
  simp [PVv, SV, staC, I, lp, tp, iC, -errV_0]
  refine call0 (giveState_ok s hs ms) (by simp [SV, staC]) ?_
  rintro y H' ⟨rfl, rfl⟩
  refine ⟨.inl (by simp [SV, staC]), le_ok rfl, ?_⟩
  simp [PVv, SV, staC, I, lp, tp, iC, -errV_0]
  have hB := BClose_ok p s hp hs
  have hR := RBClose_ok p s hp hs
  obtain ⟨hco, hcs⟩ := cloB_ok (p := p) (s := s) hp hs
  generalize cloB p s = q at hB hR hco hcs
  obtain ⟨t, ec⟩ := q
  dsimp only at hB hR hco hcs
  refine call0 hB (by simp [PVv, SV, staC]) ?_
  rintro y H' ⟨rfl, rfl⟩
  refine ⟨.inl (by simp [txC, iC]), le_ok rfl, ?_⟩
  simp [PVv, SV, staC, I, lp, tp, iC, txC, -errV_0]
  refine call0 hR (by simp [PVv, SV, staC]) ?_
  rintro y H' ⟨rfl, rfl⟩
  refine ⟨.inl (by simp [txC, iC]), le_ok rfl, ?_⟩
  simp [PVv, SV, staC, I, lp, tp, iC, txC, -errV_0]
  refine call0 (same_ok t ec hco hcs) (by simp [TXv, txC, iC, I]) ?_
  rintro y H' ⟨rfl, rfl⟩
  refine ⟨.inl (by simp), le_ok rfl, ?_⟩
  simp [-errV_0]
  refine call0 sure_ok (by simp) ?_
  rintro y H' ⟨rfl, rfl⟩
  refine ⟨.inl (by simp), le_ok rfl, ?_⟩
  simp [-errV_0]
  exact fin [] (by decide) rfl rfl rfl ⟨rfl, rfl⟩
end Go.Proofs.YtflcfdeanneoeaaGreatDoor
