import Derived.Test.YtflcfdeanneoeaaGreatDoorAll17
import Derived.Test.YtflcfdeanneoeaaGreatDoorAll10
import Derived.Test.YtflcfdeanneoeaaGreatDoorAll13
import Derived.Test.YtflcfdeanneoeaaGreatDoorAll8
namespace Go.Proofs.YtflcfdeanneoeaaGreatDoor
open Go Go.EW
set_option linter.unusedSimpArgs false
set_option linter.unusedVariables false
@[simp] def l_TPut_1 (_ : Unit) : List EOp := [xQ 0 2 (.box 63 (.t 0)), xQ 1 4 (.mov (.k (.slice none 0 0)))]
@[simp] def b_TPut_2 (_ : Unit) : EB := reg0 (hid l_TPut_1) 2
@[simp] def l_TPut_4 (_ : Unit) : List EOp := [xQ 8 19 (.cnv .u64 (.t 18)), ⟨0, (some 11), none, (.call 126 []), [1, 2, 3, 5, 6, 7, 8]⟩, ⟨4, (some 15), none, (.call 127 [(.t 11), (.t 14)]), [5, 6, 7, 8]⟩, xO 9 20 (.call 127 [(.t 15), (.t 19)]), xM 10 5 20]
@[simp] def l_TPut_3 (_ : Unit) : List EOp := xQ 1 12 (.fad 0 (.t 2)) :: xQ 2 13 (.ldc (.t 12)) :: xQ 3 14 (.cnv .u64 (.t 13)) :: xQ 5 16 (.fad 1 (.t 2)) :: xQ 6 17 (.ldc (.t 16)) :: xQ 7 18 (.len (.t 17)) :: hid l_TPut_4
@[simp] def b_TPut_5 (_ : Unit) : EB := reg1 (hid l_TPut_3) 11
@[simp] def l_TPut_6 (_ : Unit) : List EOp := [xQ 0 21 (.fad 1 (.t 2)), xQ 1 22 (.ldc (.t 21)), xQ 2 23 (.len (.t 22)), xQ 3 24 (.mov (.k (.int .i64 0)))]
@[simp] def b_TPut_7 (_ : Unit) : EB := reg0 (hid l_TPut_6) 4
@[simp] def l_TPut_8 (_ : Unit) : List EOp := [xQ 0 25 (.bin .lss (.t 24) (.t 23))]
@[simp] def b_TPut_9 (_ : Unit) : EB := reg0 (hid l_TPut_8) 1
@[simp] def b_TPut_10 (_ : Unit) : EB := .cond (.t 25) .skip (.exit 0)
@[simp] def l_TPut_11 (_ : Unit) : List EOp := [xQ 0 26 (.isl 35 (.t 22) (.t 24)), xQ 1 27 (.lda 35 (.t 26)), xQ 2 7 (.alloc 135 (zU8 ++ [(.int .i64 0), (.int .i64 0), (.slice none 0 0)])), xN 3 (.fz (.sto 35 (.t 7) (.t 27)))]
@[simp] def b_TPut_12 (_ : Unit) : EB := reg0 (hid l_TPut_11) 4
@[simp] def l_TPut_15 (_ : Unit) : List EOp := [xQ 15 43 (.lda 35 (.t 7)), ⟨4, (some 32), none, (.call 128 [(.t 28), (.t 31)]), [5, 6, 7, 8, 10, 11, 12, 14, 15]⟩, ⟨9, (some 37), none, (.call 127 [(.t 32), (.t 36)]), [10, 11, 12, 14, 15]⟩, ⟨13, (some 41), none, (.call 127 [(.t 37), (.t 40)]), [14, 15]⟩, xO 16 44 (.clo (.t 42) [(.t 43)]), xO 17 45 (.call 129 [(.t 41), (.t 44)])]
@[simp] def l_TPut_14 (_ : Unit) : List EOp := xQ 7 35 (.ldc (.t 34)) :: xQ 8 36 (.cnv .u64 (.t 35)) :: xQ 10 38 (.fad 33 (.t 7)) :: xQ 11 39 (.ldc (.t 38)) :: xQ 12 40 (.cnv .u64 (.t 39)) :: xM 14 42 1 :: hid l_TPut_15
@[simp] def l_TPut_13 (_ : Unit) : List EOp := xM 0 28 5 :: xQ 1 29 (.fad 0 (.t 7)) :: xQ 2 30 (.fad 0 (.t 29)) :: xQ 3 31 (.lda 32 (.t 30)) :: xQ 5 33 (.fad 0 (.t 7)) :: xQ 6 34 (.fad 32 (.t 33)) :: hid l_TPut_14
@[simp] def b_TPut_16 (_ : Unit) : EB := reg1 (hid l_TPut_13) 18
@[simp] def b_TPut_17 (_ : Unit) : EB := .seq (hid b_TPut_12) (hid b_TPut_16)
@[simp] def b_TPut_18 (_ : Unit) : EB := .block 1 (hid b_TPut_17)
@[simp] def l_TPut_19 (_ : Unit) : List EOp := [xQ 0 46 (.bin .add (.t 24) (.k (.int .i64 1))), xM 1 24 46]
@[simp] def b_TPut_20 (_ : Unit) : EB := reg0 (hid l_TPut_19) 2
@[simp] def b_TPut_21 (_ : Unit) : EB := .seq (hid b_TPut_18) (hid b_TPut_20)
@[simp] def b_TPut_22 (_ : Unit) : EB := .seq (hid b_TPut_10) (hid b_TPut_21)
@[simp] def b_TPut_23 (_ : Unit) : EB := .seq (hid b_TPut_9) (hid b_TPut_22)
@[simp] def b_TPut_24 (_ : Unit) : EB := .loop (hid b_TPut_23)
@[simp] def b_TPut_25 (_ : Unit) : EB := .block 0 (hid b_TPut_24)
@[simp] def b_TPut_26 (_ : Unit) : EB := .seq (hid b_TPut_7) (hid b_TPut_25)
@[simp] def l_TPut_28 (_ : Unit) : List EOp := [xO 6 53 (.call 130 [(.t 52)]), xM 7 8 53]
@[simp] def l_TPut_27 (_ : Unit) : List EOp := xM 0 47 5 :: xQ 1 48 (.fad 2 (.t 2)) :: xQ 2 49 (.ldc (.t 48)) :: xQ 3 50 (.len (.t 49)) :: xQ 4 51 (.cnv .u64 (.t 50)) :: xO 5 52 (.call 127 [(.t 47), (.t 51)]) :: hid l_TPut_28
@[simp] def b_TPut_29 (_ : Unit) : EB := reg0 (hid l_TPut_27) 8
@[simp] def l_TPut_30 (_ : Unit) : List EOp := [xQ 0 54 (.fad 2 (.t 2)), xQ 1 55 (.ldc (.t 54)), xQ 2 56 (.len (.t 55)), xQ 3 57 (.mov (.k (.int .i64 0)))]
@[simp] def b_TPut_31 (_ : Unit) : EB := reg0 (hid l_TPut_30) 4
@[simp] def l_TPut_32 (_ : Unit) : List EOp := [xQ 0 58 (.bin .lss (.t 57) (.t 56))]
@[simp] def b_TPut_33 (_ : Unit) : EB := reg0 (hid l_TPut_32) 1
@[simp] def b_TPut_34 (_ : Unit) : EB := .cond (.t 58) .skip (.exit 2)
@[simp] def l_TPut_35 (_ : Unit) : List EOp := [xQ 0 59 (.isl 2 (.t 55) (.t 57)), xQ 1 60 (.lda 2 (.t 59)), xQ 2 10 (.alloc 118 [(.int .i64 0), (.slice none 0 0)]), xN 3 (.fz (.sto 2 (.t 10) (.t 60)))]
@[simp] def b_TPut_36 (_ : Unit) : EB := reg0 (hid l_TPut_35) 4
@[simp] def l_TPut_38 (_ : Unit) : List EOp := [⟨1, (some 62), none, (.call 126 []), [0, 2, 3, 4, 8, 9]⟩, ⟨5, (some 66), none, (.call 127 [(.t 62), (.t 65)]), [0, 8, 9]⟩, ⟨6, (some 67), none, (.call 130 [(.t 66)]), [0, 8, 9]⟩, ⟨7, (some 68), none, (.app 5 1 1 (.t 61) (.t 67)), [8, 9]⟩, xO 10 71 (.call 131 [(.t 68), (.t 70)]), xM 11 8 71]
@[simp] def l_TPut_37 (_ : Unit) : List EOp := xM 0 61 8 :: xQ 2 63 (.fad 0 (.t 10)) :: xQ 3 64 (.ldc (.t 63)) :: xQ 4 65 (.cnv .u64 (.t 64)) :: xQ 8 69 (.fad 1 (.t 10)) :: xQ 9 70 (.lda 1 (.t 69)) :: hid l_TPut_38
@[simp] def b_TPut_39 (_ : Unit) : EB := reg1 (hid l_TPut_37) 12
@[simp] def b_TPut_40 (_ : Unit) : EB := .seq (hid b_TPut_36) (hid b_TPut_39)
@[simp] def b_TPut_41 (_ : Unit) : EB := .block 3 (hid b_TPut_40)
@[simp] def l_TPut_42 (_ : Unit) : List EOp := [xQ 0 72 (.bin .add (.t 57) (.k (.int .i64 1))), xM 1 57 72]
@[simp] def b_TPut_43 (_ : Unit) : EB := reg0 (hid l_TPut_42) 2
@[simp] def b_TPut_44 (_ : Unit) : EB := .seq (hid b_TPut_41) (hid b_TPut_43)
@[simp] def b_TPut_45 (_ : Unit) : EB := .seq (hid b_TPut_34) (hid b_TPut_44)
@[simp] def b_TPut_46 (_ : Unit) : EB := .seq (hid b_TPut_33) (hid b_TPut_45)
@[simp] def b_TPut_47 (_ : Unit) : EB := .loop (hid b_TPut_46)
@[simp] def b_TPut_48 (_ : Unit) : EB := .block 2 (hid b_TPut_47)
@[simp] def b_TPut_49 (_ : Unit) : EB := .seq (hid b_TPut_31) (hid b_TPut_48)
@[simp] def l_TPut_50 (_ : Unit) : List EOp := [xM 0 73 8, xM 1 4 73]
@[simp] def b_TPut_51 (_ : Unit) : EB := reg0 (hid l_TPut_50) 2
@[simp] def b_TPut_52 (_ : Unit) : EB := .seq (hid b_TPut_51) .ret
@[simp] def b_TPut_53 (_ : Unit) : EB := .seq (hid b_TPut_49) (hid b_TPut_52)
@[simp] def b_TPut_54 (_ : Unit) : EB := .seq (hid b_TPut_29) (hid b_TPut_53)
@[simp] def b_TPut_55 (_ : Unit) : EB := .seq (hid b_TPut_26) (hid b_TPut_54)
@[simp] def b_TPut_56 (_ : Unit) : EB := .seq (hid b_TPut_5) (hid b_TPut_55)
@[simp] def b_TPut_57 (_ : Unit) : EB := .seq (hid b_TPut_2) (hid b_TPut_56)
def c_TPut : EB × List QOp × Nat := ((hid b_TPut_57), [(.mov (.t 4))], 74)
theorem k_TPut : cfun Tryz.prog 76 = some c_TPut := by kernel_rfl
@[simp] def l_TEncode_1 (_ : Unit) : List EOp := [xQ 0 1 (.box 63 (.t 0)), xQ 1 2 (.mov (.k (.slice none 0 0)))]
@[simp] def b_TEncode_2 (_ : Unit) : EB := reg0 (hid l_TEncode_1) 2
@[simp] def l_TEncode_3 (_ : Unit) : List EOp := [xQ 0 3 (.lda 3 (.t 1)), xO 1 4 (.call 76 [(.t 3), (.k (.func (.func 98) #[] #[]))]), xM 2 2 4]
@[simp] def b_TEncode_4 (_ : Unit) : EB := reg0 (hid l_TEncode_3) 3
@[simp] def b_TEncode_5 (_ : Unit) : EB := .seq (hid b_TEncode_4) .ret
@[simp] def b_TEncode_6 (_ : Unit) : EB := .seq (hid b_TEncode_2) (hid b_TEncode_5)
def c_TEncode : EB × List QOp × Nat := ((hid b_TEncode_6), [(.mov (.t 2))], 5)
theorem k_TEncode : cfun Tryz.prog 54 = some c_TEncode := by kernel_rfl
@[simp] def l_InShown_1 (_ : Unit) : List EOp := [xQ 0 1 (.box 135 (.t 0)), xQ 1 2 (.mov (.k (.slice none 0 0)))]
@[simp] def b_InShown_2 (_ : Unit) : EB := reg0 (hid l_InShown_1) 2
@[simp] def l_InShown_3 (_ : Unit) : List EOp := [xQ 0 3 (.fad 34 (.t 1)), xQ 1 4 (.ldc (.t 3)), xM 2 2 4]
@[simp] def b_InShown_4 (_ : Unit) : EB := reg0 (hid l_InShown_3) 3
@[simp] def b_InShown_5 (_ : Unit) : EB := .seq (hid b_InShown_4) .ret
@[simp] def b_InShown_6 (_ : Unit) : EB := .seq (hid b_InShown_2) (hid b_InShown_5)
def c_InShown : EB × List QOp × Nat := ((hid b_InShown_6), [(.mov (.t 2))], 5)
theorem k_InShown : cfun Tryz.prog 98 = some c_InShown := by kernel_rfl
def inpB (x : Inp) : List UInt8 := x.tx ++ (uB x.n ++ (uB x.br ++ bytesB x.sec))
def oupB (o : Outp) : List UInt8 := uB o.am ++ cndB o.cs
def insB (l : List Inp) : List UInt8 := l.flatMap inpB
def ousB (l : List Outp) : List UInt8 := l.flatMap oupB
def hdB (t : Txn) : List UInt8 := uB t.lk ++ uB (t.ins.length : Int)
def mdB (t : Txn) : List UInt8 := hdB t ++ insB t.ins ++ uB (t.outs.length : Int)
def encT (t : Txn) : List UInt8 := mdB t ++ ousB t.outs
theorem insB_snoc (l : List Inp) (x : Inp) : insB (l ++ [x]) = insB l ++ inpB x := by simp [insB]
theorem ousB_snoc (l : List Outp) (x : Outp) : ousB (l ++ [x]) = ousB l ++ oupB x := by simp [ousB]
def INL (l : List Inp) : EV := .v (.c (.fz (.sl 35 (inpv l))))
def OUL (l : List Outp) : EV := .v (.c (.fz (.sl 2 (outv l))))
theorem InShown_body : bodyOK Tryz.prog 98 = true := by kernel_rfl
set_option maxHeartbeats 2000000 in
theorem InShown_ok (x : Inp) (h : x.ok) : ECalls Tryz.prog 98 [.v (.agg (inpC x))] [] fun y H' => H' = [] ∧ y = Bs x.sec := by
  obtain ⟨h1, _, _, h4⟩ := h
  have l0 := ic_len h1
  have e34 := idx_of (ic_34 h1) (by omega)
  refine ecalls k_InShown ?_
  simp [c_InShown, l0, e34]
  exact fin [] (by decide) rfl rfl rfl ⟨rfl, rfl⟩
theorem drop35h (a b c : EC) : List.drop 35 (hc hz ++ [a, b, c]) = [] := by rw [List.drop_eq_nil_iff]; simp [hz]
set_option maxHeartbeats 16000000 in
theorem TPut_ok (t : Txn) (ht : t.ok) (hsec : ∀ x ∈ t.ins, x.sec.length ≤ 10000000) (hs : (encT t).length ≤ 400000000) : ECalls Tryz.prog 76 [TXv t, .v (.c (.clo 98 []))] [] fun y H' => H' = [] ∧ y = Bs (encT t) := by
  obtain ⟨t1, t2, t3, t4, t5⟩ := id ht
  have hlen : (encT t).length = (uB t.lk).length + (uB (t.ins.length : Int)).length + (insB t.ins).length + (uB (t.outs.length : Int)).length + (ousB t.outs).length := by simp [encT, mdB, hdB]; try omega
  refine ecalls k_TPut ?_
  simp [c_TPut, TXv, txC, iC]
  refine call0 New_ok rfl ?_
  rintro y H' ⟨rfl, rfl⟩
  refine ⟨.inl rfl, le_ok rfl, ?_⟩
  simp [Ptr, WO, RO, wrap_u64n]
  refine callH [32, 33] (WUint_ok [] (u64n t.lk) (u64n_lt _) (by simp)) (by simp [Ptr, I]) (by simp [WO, RO]) (by simp) (by simp) (by simp) ?_
  rintro y H' ⟨rfl, rfl⟩
  refine ⟨.inl (by simp), le_ok rfl, ?_⟩
  simp only [uB_eq, List.nil_append]
  simp [WO, RO, Ptr, wrap_u64n]
  refine callH [32, 96] (WUint_ok (uB t.lk) (u64n (t.ins.length : Int)) (u64n_lt _) (by omega)) (by simp [Ptr, I]) (by simp [WO, RO]) (by simp) (by simp) (by simp) ?_
  rintro y H' ⟨rfl, rfl⟩
  refine ⟨.inl (by simp), le_ok rfl, ?_⟩
  obtain ⟨F, hF⟩ : ∃ F : Nat → List UInt8, F = fun i => hdB t ++ insB (t.ins.take i) := ⟨_, rfl⟩
  have hF0 : uB t.lk ++ uB (t.ins.length : Int) = F 0 := by rw [hF]; simp [insB, hdB]
  have hFl : ∀ i, (F i).length ≤ 400000000 := by
    intro i
    have hfl := flat_take inpB t.ins i
    rw [hF]; simp only [List.length_append, hdB]; unfold insB at *; omega
  simp only [uB_eq, hF0]
  simp [WO, RO, Ptr]
  refine eloop (α := Nat) (fun i => i ≤ t.ins.length) (fun i => t.ins.length - i)
    (fun i => [.any, .v (.c (.clo 98 [])), Ptr 0, .any, .any, Ptr 1, .any, .any, .any, .any, .any, .any, .any, .any, .any, .any, .any, .any, .any, .any, .any, .any, INL t.ins, I .i64 t.ins.length, I .i64 i, .any, .any, .any, .any, .any, .any, .any, .any, .any, .any, .any, .any, .any, .any, .any, .any, .any, .any, .any, .any, .any, .any, .any, .any, .any, .any, .any, .any, .any, .any, .any, .any, .any, .any, .any, .any, .any, .any, .any, .any, .any, .any, .any, .any, .any, .any, .any, .any, .any]) (fun i => [some (.box 63 (txC t)), some (WO 2 (F i)), some (RO (F i))]) 0 [0, 32, 176]
    (Nat.zero_le _) (by simp [Ptr, I, INL]) (by simp [WO, RO, txC, iC]) (by simp) (by simp) (by simp) ?_
  intro i hi
  have hX := hFl i
  simp [Ptr, I, INL, WO, RO, txC, iC]
  refine alt (fun hlt => ?_) (fun hlt => ?_)
  · have hln : i < t.ins.length := by omega
    obtain ⟨x, hcx⟩ : ∃ x, t.ins[i]? = some x := ⟨t.ins[i], by simp [hln]⟩
    have hge : (inpv t.ins)[i]'(by simpa using hln) = inpF x := by
      have e := inpv_get hcx
      rw [List.getElem?_eq_getElem (by simpa using hln)] at e
      exact Option.some.inj e
    have hx := t2 x (List.mem_of_getElem? hcx)
    obtain ⟨x1, x2, x3, x4⟩ := id hx
    have x5 := hsec x (List.mem_of_getElem? hcx)
    have l0 := ic_len x1
    have f0 := if_len x1
    have tk := ic_take x1
    have th := ic_hash x1
    have e32 := idx_of (ic_32 x1) (by omega)
    have e33 := idx_of (ic_33 x1) (by omega)
    have w1 : IntKind.i64.wrap ((i : Int) + 1) = ((i + 1 : Nat) : Int) := wrap_i64 (by omega) (by omega)
    have hfs := flat_take_s inpB hcx
    have hbl : (inpB x).length = 32 + ((uB x.n).length + ((uB x.br).length + (bytesB x.sec).length)) := by simp [inpB, x1]
    have hXb : (F i).length + (inpB x).length ≤ 400000000 := by
      rw [hF]; simp only [List.length_append, hdB]; unfold insB at *; omega
    have hFs : F (i + 1) = F i ++ inpB x := by rw [hF]; simp [take_s hcx, insB_snoc]
    simp [hln, hge, inpF_fz, l0, f0, tk, th, e32, e33, wrap_u64n, drop35h, iC, WO, RO, Ptr]
    refine callH [1, 2] (WHash_ok (F i) x.tx (by omega) x1) (by simp [Ptr, Ag]) (by simp [WO, RO]) (by simp) (by simp) (by simp) ?_
    rintro y H' ⟨rfl, rfl⟩
    refine ⟨.inl (by simp), le_ok rfl, ?_⟩
    simp [hln, hge, inpF_fz, l0, f0, tk, th, e32, e33, wrap_u64n, drop35h, iC, WO, RO, Ptr]
    refine callH [1, 147] (WUint_ok (F i ++ x.tx) (u64n x.n) (u64n_lt _) (by simp; omega)) (by simp [Ptr, I]) (by simp [WO, RO]) (by simp) (by simp) (by simp) ?_
    rintro y H' ⟨rfl, rfl⟩
    refine ⟨.inl (by simp), le_ok rfl, ?_⟩
    simp only [uB_eq]
    simp [hln, hge, inpF_fz, l0, f0, tk, th, e32, e33, wrap_u64n, drop35h, iC, WO, RO, Ptr]
    refine callH [1, 227] (WUint_ok (F i ++ x.tx ++ uB x.n) (u64n x.br) (u64n_lt _) (by simp; omega)) (by simp [Ptr, I]) (by simp [WO, RO]) (by simp) (by simp) (by simp) ?_
    rintro y H' ⟨rfl, rfl⟩
    refine ⟨.inl (by simp), le_ok rfl, ?_⟩
    simp only [uB_eq]
    simp [hln, hge, inpF_fz, l0, f0, tk, th, e32, e33, wrap_u64n, drop35h, iC, WO, RO, Ptr]
    refine ⟨InShown_body, ?_⟩
    refine call0 (InShown_ok x hx) (by simp [hln, hge, inpF_fz, l0, f0, tk, th, e32, e33, wrap_u64n, drop35h, iC, WO, RO, Ptr]) ?_
    rintro y H' ⟨rfl, rfl⟩
    refine ⟨.inl (by simp [Bs]), le_ok rfl, ?_⟩
    simp [hln, hge, inpF_fz, l0, f0, tk, th, e32, e33, wrap_u64n, drop35h, iC, WO, RO, Ptr, Bs]
    refine callH [1, 291] (WBytes_ok (F i ++ x.tx ++ uB x.n ++ uB x.br) x.sec (by simp; omega) (by omega)) (by simp [Ptr, Bs]) (by simp [WO, RO]) (by simp) (by simp) (by simp) ?_
    rintro y H' ⟨rfl, rfl⟩
    refine ⟨.inl (by simp), le_ok rfl, ?_⟩
    have hGe : F i ++ x.tx ++ uB x.n ++ uB x.br ++ bytesB x.sec = F (i + 1) := by rw [hFs]; simp [inpB]
    simp only [hGe]
    simp [WO, RO, Ptr, w1, -Int.natCast_add]
    exact round (i + 1) [0, 1, 355] (by omega) (by omega) (by simp [Ptr, I, INL]) (by simp [WO, RO, txC, iC]) (by simp) (by simp) (by simp)
  have hil : i = t.ins.length := by omega
  subst hil
  have hFe : F t.ins.length = hdB t ++ insB t.ins := by rw [hF]; simp
  simp [wrap_u64n]
  refine callH [1, 2] (WUint_ok (F t.ins.length) (u64n (t.outs.length : Int)) (u64n_lt _) (by omega)) (by simp [Ptr, I]) (by simp [WO, RO]) (by simp) (by simp) (by simp) ?_
  rintro y H' ⟨rfl, rfl⟩
  refine ⟨.inl (by simp), le_ok rfl, ?_⟩
  obtain ⟨K, hK⟩ : ∃ K : Nat → List UInt8, K = fun i => mdB t ++ ousB (t.outs.take i) := ⟨_, rfl⟩
  have hK0 : F t.ins.length ++ uB (t.outs.length : Int) = K 0 := by rw [hK, hFe]; simp [ousB, mdB]
  have hKl : ∀ i, (K i).length ≤ 400000000 := by
    intro i
    have hfl := flat_take oupB t.outs i
    rw [hK]; simp only [List.length_append, hdB, mdB]; unfold ousB at *; omega
  simp only [uB_eq, hK0]
  simp [WO, RO, Ptr]
  have hK00 := hKl 0
  refine callH [1, 99] (WDone_ok (K 0) (by omega)) (by simp [Ptr]) (by simp [WO, RO]) (by simp) (by simp) (by simp) ?_
  rintro y H' ⟨rfl, rfl⟩
  refine ⟨.inl (by simp), le_ok rfl, ?_⟩
  simp [WO, RO, Ptr, R]
  refine eloop (α := Nat) (fun i => i ≤ t.outs.length) (fun i => t.outs.length - i)
    (fun i => [.any, .any, .any, .any, .any, .any, .any, .any, R 0 (K i), .any, .any, .any, .any, .any, .any, .any, .any, .any, .any, .any, .any, .any, .any, .any, .any, .any, .any, .any, .any, .any, .any, .any, .any, .any, .any, .any, .any, .any, .any, .any, .any, .any, .any, .any, .any, .any, .any, .any, .any, .any, .any, .any, .any, .any, .any, OUL t.outs, I .i64 t.outs.length, I .i64 i, .any, .any, .any, .any, .any, .any, .any, .any, .any, .any, .any, .any, .any, .any, .any, .any]) (fun i => [some (RO (K i))]) 0 [115]
    (Nat.zero_le _) (by simp [R, I, OUL]) (by simp [RO]) (by simp) (by simp) (by simp) ?_
  intro i hi
  have hX := hKl i
  simp [R, I, OUL, RO]
  refine alt (fun hlt => ?_) (fun hlt => ?_)
  · have hln : i < t.outs.length := by omega
    obtain ⟨x, hcx⟩ : ∃ x, t.outs[i]? = some x := ⟨t.outs[i], by simp [hln]⟩
    have hge : (outv t.outs)[i]'(by simpa using hln) = outF x := by
      have e := outv_get hcx
      rw [List.getElem?_eq_getElem (by simpa using hln)] at e
      exact Option.some.inj e
    obtain ⟨x1, x2, x3⟩ := t3 x (List.mem_of_getElem? hcx)
    have w1 : IntKind.i64.wrap ((i : Int) + 1) = ((i + 1 : Nat) : Int) := wrap_i64 (by omega) (by omega)
    have hfs := flat_take_s oupB hcx
    have hbl : (oupB x).length = (uB x.am).length + (cndB x.cs).length := by simp [oupB]
    have hXb : (K i).length + (oupB x).length ≤ 400000000 := by
      rw [hK]; simp only [List.length_append, hdB, mdB]; unfold ousB at *; omega
    have hKs : K (i + 1) = K i ++ oupB x := by rw [hK]; simp [take_s hcx, ousB_snoc]
    simp [hln, hge, outF, iF]
    refine call0 New_ok rfl ?_
    rintro y H' ⟨rfl, rfl⟩
    refine ⟨.inl rfl, le_ok rfl, ?_⟩
    simp [Ptr, WO, RO, wrap_u64n]
    refine callH [97, 98] (WUint_ok [] (u64n x.am) (u64n_lt _) (by simp)) (by simp [Ptr, I]) (by simp [WO, RO]) (by simp) (by simp) (by simp) ?_
    rintro y H' ⟨rfl, rfl⟩
    refine ⟨.inl (by simp), le_ok rfl, ?_⟩
    simp only [uB_eq, List.nil_append]
    simp [Ptr, WO, RO, wrap_u64n]
    have hua := uB_len x.am
    refine callH [97, 161] (WDone_ok (uB x.am) (by omega)) (by simp [Ptr]) (by simp [WO, RO]) (by simp) (by simp) (by simp) ?_
    rintro y H' ⟨rfl, rfl⟩
    refine ⟨.inl (by simp), le_ok rfl, ?_⟩
    simp [WO, RO, Ptr, R, bsv_app]
    refine ⟨⟨by omega, by omega⟩, ?_⟩
    refine call0 (CPut_ok (K i ++ uB x.am) x.cs x2 x3 (by simp; omega)) (by simp [CNv, Bs, List.take_of_length_le]) ?_
    rintro y H' ⟨rfl, rfl⟩
    refine ⟨.inr ⟨rfl, by simp [RO, bsv, cb]⟩, le_ok rfl, ?_⟩
    have hGe : K i ++ uB x.am ++ cndB x.cs = K (i + 1) := by rw [hKs]; simp [oupB]
    simp only [hGe]
    simp [R, RO, w1, -Int.natCast_add]
    exact round (i + 1) [241] (by omega) (by omega) (by simp [R, I, OUL]) (by simp [RO]) (by simp) (by simp) (by simp)
  have hil : i = t.outs.length := by omega
  subst hil
  have hKe : K t.outs.length = encT t := by rw [hK]; simp [encT]
  simp
  refine finW _ (weak_frz (o := 0) (ty := 5) (es := 1) (xs := bsv (K t.outs.length)) rfl) ?_
  exact fin [] (by decide) rfl rfl rfl ⟨rfl, by simp [Bs, hKe, List.take_of_length_le]⟩
set_option maxHeartbeats 4000000 in
theorem TEncode_ok (t : Txn) (ht : t.ok) (hsec : ∀ x ∈ t.ins, x.sec.length ≤ 10000000) (hs : (encT t).length ≤ 400000000) : ECalls Tryz.prog 54 [TXv t] [] fun y H' => H' = [] ∧ y = Bs (encT t) := by
  refine ecalls k_TEncode ?_
  simp [c_TEncode, TXv, txC, iC]
  refine call0 (TPut_ok t ht hsec hs) (by simp [TXv, txC, iC]) ?_
  rintro y H' ⟨rfl, rfl⟩
  refine ⟨.inl (by simp [Bs]), le_ok rfl, ?_⟩
  simp [Bs]
  exact fin [] (by decide) rfl rfl rfl ⟨rfl, rfl⟩
end Go.Proofs.YtflcfdeanneoeaaGreatDoor
namespace Go.Proofs.YtflcfdeanneoeaaGreatDoor
open Go Go.EW
set_option linter.unusedSimpArgs false
set_option linter.unusedVariables false
@[simp] def l_RCPut_1 (_ : Unit) : List EOp := [xQ 0 3 (.box 145 (.t 1)), xQ 1 4 (.mov (.k (.slice none 0 0)))]
@[simp] def b_RCPut_2 (_ : Unit) : EB := reg0 (hid l_RCPut_1) 2
@[simp] def l_RCPut_3 (_ : Unit) : List EOp := [xQ 0 5 (.mov (.k (.slice none 0 0)))]
@[simp] def b_RCPut_4 (_ : Unit) : EB := reg0 (hid l_RCPut_3) 1
@[simp] def l_RCPut_6 (_ : Unit) : List EOp := [⟨2, (some 11), none, (.app 5 1 1 (.t 9) (.t 10)), [3, 4, 5, 6]⟩, xO 7 16 (.call 147 [(.t 11), (.t 15)]), xM 8 5 16]
@[simp] def l_RCPut_5 (_ : Unit) : List EOp := xM 0 9 5 :: xM 1 10 0 :: xQ 3 12 (.fad 0 (.t 3)) :: xQ 4 13 (.ldc (.t 12)) :: xQ 5 14 (.len (.t 13)) :: xQ 6 15 (.cnv .u64 (.t 14)) :: hid l_RCPut_6
@[simp] def b_RCPut_7 (_ : Unit) : EB := reg1 (hid l_RCPut_5) 9
@[simp] def l_RCPut_8 (_ : Unit) : List EOp := [xQ 0 6 (.mov (.k (.int .i64 0)))]
@[simp] def b_RCPut_9 (_ : Unit) : EB := reg0 (hid l_RCPut_8) 1
@[simp] def l_RCPut_10 (_ : Unit) : List EOp := [xM 0 17 6, xQ 1 18 (.fad 0 (.t 3)), xQ 2 19 (.ldc (.t 18)), xQ 3 20 (.len (.t 19)), xQ 4 21 (.bin .lss (.t 17) (.t 20))]
@[simp] def b_RCPut_11 (_ : Unit) : EB := reg0 (hid l_RCPut_10) 5
@[simp] def b_RCPut_12 (_ : Unit) : EB := .cond (.t 21) .skip (.exit 0)
@[simp] def b_RCPut_13 (_ : Unit) : EB := .seq (hid b_RCPut_11) (hid b_RCPut_12)
@[simp] def l_RCPut_15 (_ : Unit) : List EOp := [xN 6 (.fz (.sto 35 (.t 7) (.t 28)))]
@[simp] def l_RCPut_14 (_ : Unit) : List EOp := xQ 0 24 (.fad 0 (.t 3)) :: xQ 1 25 (.ldc (.t 24)) :: xM 2 26 6 :: xQ 3 27 (.isl 35 (.t 25) (.t 26)) :: xQ 4 28 (.lda 35 (.t 27)) :: xQ 5 7 (.alloc 150 (([(.slice none 0 0)] : List Value) ++ zU8 ++ [(.int .i64 0), (.int .i64 0)])) :: hid l_RCPut_15
@[simp] def b_RCPut_16 (_ : Unit) : EB := reg0 (hid l_RCPut_14) 7
@[simp] def l_RCPut_18 (_ : Unit) : List EOp := [xM 6 5 34]
@[simp] def l_RCPut_17 (_ : Unit) : List EOp := xM 0 29 5 :: xQ 1 30 (.fad 0 (.t 7)) :: xQ 2 31 (.ldc (.t 30)) :: xQ 3 32 (.len (.t 31)) :: xQ 4 33 (.cnv .u64 (.t 32)) :: xO 5 34 (.call 147 [(.t 29), (.t 33)]) :: hid l_RCPut_18
@[simp] def b_RCPut_19 (_ : Unit) : EB := reg0 (hid l_RCPut_17) 7
@[simp] def l_RCPut_20 (_ : Unit) : List EOp := [xQ 0 8 (.mov (.k (.int .i64 0)))]
@[simp] def b_RCPut_21 (_ : Unit) : EB := reg0 (hid l_RCPut_20) 1
@[simp] def l_RCPut_22 (_ : Unit) : List EOp := [xM 0 35 8, xQ 1 36 (.fad 0 (.t 7)), xQ 2 37 (.ldc (.t 36)), xQ 3 38 (.len (.t 37)), xQ 4 39 (.bin .lss (.t 35) (.t 38))]
@[simp] def b_RCPut_23 (_ : Unit) : EB := reg0 (hid l_RCPut_22) 5
@[simp] def b_RCPut_24 (_ : Unit) : EB := .cond (.t 39) .skip (.exit 2)
@[simp] def b_RCPut_25 (_ : Unit) : EB := .seq (hid b_RCPut_23) (hid b_RCPut_24)
@[simp] def l_RCPut_27 (_ : Unit) : List EOp := [xQ 6 48 (.cnv .u64 (.t 47)), xO 7 49 (.call 147 [(.t 42), (.t 48)]), xM 8 5 49]
@[simp] def l_RCPut_26 (_ : Unit) : List EOp := xM 0 42 5 :: xQ 1 43 (.fad 0 (.t 7)) :: xQ 2 44 (.ldc (.t 43)) :: xM 3 45 8 :: xQ 4 46 (.isl 1 (.t 44) (.t 45)) :: xQ 5 47 (.ldc (.t 46)) :: hid l_RCPut_27
@[simp] def b_RCPut_28 (_ : Unit) : EB := reg0 (hid l_RCPut_26) 9
@[simp] def b_RCPut_29 (_ : Unit) : EB := .block 3 (hid b_RCPut_28)
@[simp] def l_RCPut_30 (_ : Unit) : List EOp := [xM 0 40 8, xQ 1 41 (.bin .add (.t 40) (.k (.int .i64 1))), xM 2 8 41]
@[simp] def b_RCPut_31 (_ : Unit) : EB := reg0 (hid l_RCPut_30) 3
@[simp] def b_RCPut_32 (_ : Unit) : EB := .seq (hid b_RCPut_29) (hid b_RCPut_31)
@[simp] def b_RCPut_33 (_ : Unit) : EB := .seq (hid b_RCPut_25) (hid b_RCPut_32)
@[simp] def b_RCPut_34 (_ : Unit) : EB := .loop (hid b_RCPut_33)
@[simp] def b_RCPut_35 (_ : Unit) : EB := .block 2 (hid b_RCPut_34)
@[simp] def b_RCPut_36 (_ : Unit) : EB := .seq (hid b_RCPut_21) (hid b_RCPut_35)
@[simp] def l_RCPut_39 (_ : Unit) : List EOp := [xM 12 5 61]
@[simp] def l_RCPut_38 (_ : Unit) : List EOp := xQ 8 58 (.fad 34 (.t 7)) :: xQ 9 59 (.ldc (.t 58)) :: xQ 10 60 (.cnv .u64 (.t 59)) :: ⟨3, (some 53), none, (.call 148 [(.t 50), (.t 52)]), [4, 5, 6, 8, 9, 10]⟩ :: ⟨7, (some 57), none, (.call 147 [(.t 53), (.t 56)]), [8, 9, 10]⟩ :: xO 11 61 (.call 147 [(.t 57), (.t 60)]) :: hid l_RCPut_39
@[simp] def l_RCPut_37 (_ : Unit) : List EOp := xM 0 50 5 :: xQ 1 51 (.fad 1 (.t 7)) :: xQ 2 52 (.lda 32 (.t 51)) :: xQ 4 54 (.fad 33 (.t 7)) :: xQ 5 55 (.ldc (.t 54)) :: xQ 6 56 (.cnv .u64 (.t 55)) :: hid l_RCPut_38
@[simp] def b_RCPut_40 (_ : Unit) : EB := reg1 (hid l_RCPut_37) 13
@[simp] def b_RCPut_41 (_ : Unit) : EB := .seq (hid b_RCPut_36) (hid b_RCPut_40)
@[simp] def b_RCPut_42 (_ : Unit) : EB := .seq (hid b_RCPut_19) (hid b_RCPut_41)
@[simp] def b_RCPut_43 (_ : Unit) : EB := .seq (hid b_RCPut_16) (hid b_RCPut_42)
@[simp] def b_RCPut_44 (_ : Unit) : EB := .block 1 (hid b_RCPut_43)
@[simp] def l_RCPut_45 (_ : Unit) : List EOp := [xM 0 22 6, xQ 1 23 (.bin .add (.t 22) (.k (.int .i64 1))), xM 2 6 23]
@[simp] def b_RCPut_46 (_ : Unit) : EB := reg0 (hid l_RCPut_45) 3
@[simp] def b_RCPut_47 (_ : Unit) : EB := .seq (hid b_RCPut_44) (hid b_RCPut_46)
@[simp] def b_RCPut_48 (_ : Unit) : EB := .seq (hid b_RCPut_13) (hid b_RCPut_47)
@[simp] def b_RCPut_49 (_ : Unit) : EB := .loop (hid b_RCPut_48)
@[simp] def b_RCPut_50 (_ : Unit) : EB := .block 0 (hid b_RCPut_49)
@[simp] def b_RCPut_51 (_ : Unit) : EB := .seq (hid b_RCPut_9) (hid b_RCPut_50)
@[simp] def l_RCPut_52 (_ : Unit) : List EOp := [xM 0 62 5, xM 1 4 62]
@[simp] def b_RCPut_53 (_ : Unit) : EB := reg0 (hid l_RCPut_52) 2
@[simp] def b_RCPut_54 (_ : Unit) : EB := .seq (hid b_RCPut_53) .ret
@[simp] def b_RCPut_55 (_ : Unit) : EB := .seq (hid b_RCPut_51) (hid b_RCPut_54)
@[simp] def b_RCPut_56 (_ : Unit) : EB := .seq (hid b_RCPut_7) (hid b_RCPut_55)
@[simp] def b_RCPut_57 (_ : Unit) : EB := .seq (hid b_RCPut_4) (hid b_RCPut_56)
@[simp] def b_RCPut_58 (_ : Unit) : EB := .seq (hid b_RCPut_2) (hid b_RCPut_57)
def c_RCPut : EB × List QOp × Nat := ((hid b_RCPut_58), [(.mov (.t 4))], 63)
theorem k_RCPut : cfun Tryz.prog 150 = some c_RCPut := by kernel_rfl
@[simp] def l_RTPut_1 (_ : Unit) : List EOp := [xQ 0 2 (.box 69 (.t 0)), xQ 1 4 (.mov (.k (.slice none 0 0)))]
@[simp] def b_RTPut_2 (_ : Unit) : EB := reg0 (hid l_RTPut_1) 2
@[simp] def l_RTPut_4 (_ : Unit) : List EOp := [xQ 7 16 (.cnv .u64 (.t 15)), ⟨3, (some 12), none, (.call 147 [(.k (.slice none 0 0)), (.t 11)]), [4, 5, 6, 7]⟩, xO 8 17 (.call 147 [(.t 12), (.t 16)]), xM 9 5 17]
@[simp] def l_RTPut_3 (_ : Unit) : List EOp := xQ 0 9 (.fad 0 (.t 2)) :: xQ 1 10 (.ldc (.t 9)) :: xQ 2 11 (.cnv .u64 (.t 10)) :: xQ 4 13 (.fad 1 (.t 2)) :: xQ 5 14 (.ldc (.t 13)) :: xQ 6 15 (.len (.t 14)) :: hid l_RTPut_4
@[simp] def b_RTPut_5 (_ : Unit) : EB := reg1 (hid l_RTPut_3) 10
@[simp] def l_RTPut_6 (_ : Unit) : List EOp := [xQ 0 6 (.mov (.k (.int .i64 0)))]
@[simp] def b_RTPut_7 (_ : Unit) : EB := reg0 (hid l_RTPut_6) 1
@[simp] def l_RTPut_8 (_ : Unit) : List EOp := [xM 0 18 6, xQ 1 19 (.fad 1 (.t 2)), xQ 2 20 (.ldc (.t 19)), xQ 3 21 (.len (.t 20)), xQ 4 22 (.bin .lss (.t 18) (.t 21))]
@[simp] def b_RTPut_9 (_ : Unit) : EB := reg0 (hid l_RTPut_8) 5
@[simp] def b_RTPut_10 (_ : Unit) : EB := .cond (.t 22) .skip (.exit 0)
@[simp] def b_RTPut_11 (_ : Unit) : EB := .seq (hid b_RTPut_9) (hid b_RTPut_10)
@[simp] def l_RTPut_13 (_ : Unit) : List EOp := [xN 6 (.fz (.sto 35 (.t 7) (.t 29)))]
@[simp] def l_RTPut_12 (_ : Unit) : List EOp := xQ 0 25 (.fad 1 (.t 2)) :: xQ 1 26 (.ldc (.t 25)) :: xM 2 27 6 :: xQ 3 28 (.isl 35 (.t 26) (.t 27)) :: xQ 4 29 (.lda 35 (.t 28)) :: xQ 5 7 (.alloc 83 (zU8 ++ [(.int .i64 0), (.int .i64 0), (.slice none 0 0)])) :: hid l_RTPut_13
@[simp] def b_RTPut_14 (_ : Unit) : EB := reg0 (hid l_RTPut_12) 7
@[simp] def l_RTPut_17 (_ : Unit) : List EOp := [⟨9, (some 39), none, (.call 147 [(.t 34), (.t 38)]), [10, 11, 12]⟩, xO 13 43 (.call 147 [(.t 39), (.t 42)]), xM 14 5 43]
@[simp] def l_RTPut_16 (_ : Unit) : List EOp := xQ 7 37 (.ldc (.t 36)) :: xQ 8 38 (.cnv .u64 (.t 37)) :: xQ 10 40 (.fad 33 (.t 7)) :: xQ 11 41 (.ldc (.t 40)) :: xQ 12 42 (.cnv .u64 (.t 41)) :: ⟨4, (some 34), none, (.call 148 [(.t 30), (.t 33)]), [5, 6, 7, 8, 10, 11, 12]⟩ :: hid l_RTPut_17
@[simp] def l_RTPut_15 (_ : Unit) : List EOp := xM 0 30 5 :: xQ 1 31 (.fad 0 (.t 7)) :: xQ 2 32 (.fad 0 (.t 31)) :: xQ 3 33 (.lda 32 (.t 32)) :: xQ 5 35 (.fad 0 (.t 7)) :: xQ 6 36 (.fad 32 (.t 35)) :: hid l_RTPut_16
@[simp] def b_RTPut_18 (_ : Unit) : EB := reg1 (hid l_RTPut_15) 15
@[simp] def l_RTPut_19 (_ : Unit) : List EOp := [xM 0 44 1]
@[simp] def b_RTPut_20 (_ : Unit) : EB := reg0 (hid l_RTPut_19) 1
@[simp] def l_RTPut_21 (_ : Unit) : List EOp := [xM 0 45 5, xQ 1 46 (.fad 34 (.t 7)), xQ 2 47 (.ldc (.t 46)), xO 3 48 (.call 149 [(.t 45), (.t 47)]), xM 4 5 48]
@[simp] def b_RTPut_22 (_ : Unit) : EB := reg0 (hid l_RTPut_21) 5
@[simp] def l_RTPut_23 (_ : Unit) : List EOp := [xM 0 49 5, xO 1 50 (.call 149 [(.t 49), (.k (.slice none 0 0))]), xM 2 5 50]
@[simp] def b_RTPut_24 (_ : Unit) : EB := reg0 (hid l_RTPut_23) 3
@[simp] def b_RTPut_25 (_ : Unit) : EB := .cond (.t 44) (hid b_RTPut_22) (hid b_RTPut_24)
@[simp] def b_RTPut_26 (_ : Unit) : EB := .seq (hid b_RTPut_20) (hid b_RTPut_25)
@[simp] def b_RTPut_27 (_ : Unit) : EB := .seq (hid b_RTPut_18) (hid b_RTPut_26)
@[simp] def b_RTPut_28 (_ : Unit) : EB := .seq (hid b_RTPut_14) (hid b_RTPut_27)
@[simp] def b_RTPut_29 (_ : Unit) : EB := .block 1 (hid b_RTPut_28)
@[simp] def l_RTPut_30 (_ : Unit) : List EOp := [xM 0 23 6, xQ 1 24 (.bin .add (.t 23) (.k (.int .i64 1))), xM 2 6 24]
@[simp] def b_RTPut_31 (_ : Unit) : EB := reg0 (hid l_RTPut_30) 3
@[simp] def b_RTPut_32 (_ : Unit) : EB := .seq (hid b_RTPut_29) (hid b_RTPut_31)
@[simp] def b_RTPut_33 (_ : Unit) : EB := .seq (hid b_RTPut_11) (hid b_RTPut_32)
@[simp] def b_RTPut_34 (_ : Unit) : EB := .loop (hid b_RTPut_33)
@[simp] def b_RTPut_35 (_ : Unit) : EB := .block 0 (hid b_RTPut_34)
@[simp] def b_RTPut_36 (_ : Unit) : EB := .seq (hid b_RTPut_7) (hid b_RTPut_35)
@[simp] def l_RTPut_38 (_ : Unit) : List EOp := [xM 6 5 56]
@[simp] def l_RTPut_37 (_ : Unit) : List EOp := xM 0 51 5 :: xQ 1 52 (.fad 2 (.t 2)) :: xQ 2 53 (.ldc (.t 52)) :: xQ 3 54 (.len (.t 53)) :: xQ 4 55 (.cnv .u64 (.t 54)) :: xO 5 56 (.call 147 [(.t 51), (.t 55)]) :: hid l_RTPut_38
@[simp] def b_RTPut_39 (_ : Unit) : EB := reg0 (hid l_RTPut_37) 7
@[simp] def l_RTPut_40 (_ : Unit) : List EOp := [xQ 0 8 (.mov (.k (.int .i64 0)))]
@[simp] def b_RTPut_41 (_ : Unit) : EB := reg0 (hid l_RTPut_40) 1
@[simp] def l_RTPut_42 (_ : Unit) : List EOp := [xM 0 57 8, xQ 1 58 (.fad 2 (.t 2)), xQ 2 59 (.ldc (.t 58)), xQ 3 60 (.len (.t 59)), xQ 4 61 (.bin .lss (.t 57) (.t 60))]
@[simp] def b_RTPut_43 (_ : Unit) : EB := reg0 (hid l_RTPut_42) 5
@[simp] def b_RTPut_44 (_ : Unit) : EB := .cond (.t 61) .skip (.exit 2)
@[simp] def b_RTPut_45 (_ : Unit) : EB := .seq (hid b_RTPut_43) (hid b_RTPut_44)
@[simp] def l_RTPut_48 (_ : Unit) : List EOp := [xQ 13 77 (.fad 1 (.t 76)), xQ 14 78 (.lda 1 (.t 77)), ⟨8, (some 72), none, (.call 147 [(.t 64), (.t 71)]), [9, 10, 11, 12, 13, 14]⟩, xO 15 79 (.call 150 [(.t 72), (.t 78)]), xM 16 5 79]
@[simp] def l_RTPut_47 (_ : Unit) : List EOp := xQ 6 70 (.ldc (.t 69)) :: xQ 7 71 (.cnv .u64 (.t 70)) :: xQ 9 73 (.fad 2 (.t 2)) :: xQ 10 74 (.ldc (.t 73)) :: xM 11 75 8 :: xQ 12 76 (.isl 2 (.t 74) (.t 75)) :: hid l_RTPut_48
@[simp] def l_RTPut_46 (_ : Unit) : List EOp := xM 0 64 5 :: xQ 1 65 (.fad 2 (.t 2)) :: xQ 2 66 (.ldc (.t 65)) :: xM 3 67 8 :: xQ 4 68 (.isl 2 (.t 66) (.t 67)) :: xQ 5 69 (.fad 0 (.t 68)) :: hid l_RTPut_47
@[simp] def b_RTPut_49 (_ : Unit) : EB := reg1 (hid l_RTPut_46) 17
@[simp] def b_RTPut_50 (_ : Unit) : EB := .block 3 (hid b_RTPut_49)
@[simp] def l_RTPut_51 (_ : Unit) : List EOp := [xM 0 62 8, xQ 1 63 (.bin .add (.t 62) (.k (.int .i64 1))), xM 2 8 63]
@[simp] def b_RTPut_52 (_ : Unit) : EB := reg0 (hid l_RTPut_51) 3
@[simp] def b_RTPut_53 (_ : Unit) : EB := .seq (hid b_RTPut_50) (hid b_RTPut_52)
@[simp] def b_RTPut_54 (_ : Unit) : EB := .seq (hid b_RTPut_45) (hid b_RTPut_53)
@[simp] def b_RTPut_55 (_ : Unit) : EB := .loop (hid b_RTPut_54)
@[simp] def b_RTPut_56 (_ : Unit) : EB := .block 2 (hid b_RTPut_55)
@[simp] def b_RTPut_57 (_ : Unit) : EB := .seq (hid b_RTPut_41) (hid b_RTPut_56)
@[simp] def l_RTPut_58 (_ : Unit) : List EOp := [xM 0 80 5, xM 1 4 80]
@[simp] def b_RTPut_59 (_ : Unit) : EB := reg0 (hid l_RTPut_58) 2
@[simp] def b_RTPut_60 (_ : Unit) : EB := .seq (hid b_RTPut_59) .ret
@[simp] def b_RTPut_61 (_ : Unit) : EB := .seq (hid b_RTPut_57) (hid b_RTPut_60)
@[simp] def b_RTPut_62 (_ : Unit) : EB := .seq (hid b_RTPut_39) (hid b_RTPut_61)
@[simp] def b_RTPut_63 (_ : Unit) : EB := .seq (hid b_RTPut_36) (hid b_RTPut_62)
@[simp] def b_RTPut_64 (_ : Unit) : EB := .seq (hid b_RTPut_5) (hid b_RTPut_63)
@[simp] def b_RTPut_65 (_ : Unit) : EB := .seq (hid b_RTPut_2) (hid b_RTPut_64)
def c_RTPut : EB × List QOp × Nat := ((hid b_RTPut_65), [(.mov (.t 4))], 81)
theorem k_RTPut : cfun Tryz.prog 99 = some c_RTPut := by kernel_rfl
@[simp] def l_RTEncode_1 (_ : Unit) : List EOp := [xQ 0 1 (.box 69 (.t 0)), xQ 1 2 (.mov (.k (.slice none 0 0)))]
@[simp] def b_RTEncode_2 (_ : Unit) : EB := reg0 (hid l_RTEncode_1) 2
@[simp] def l_RTEncode_3 (_ : Unit) : List EOp := [xQ 0 3 (.lda 3 (.t 1)), xO 1 4 (.call 99 [(.t 3), (.k (.bool true))]), xM 2 2 4]
@[simp] def b_RTEncode_4 (_ : Unit) : EB := reg0 (hid l_RTEncode_3) 3
@[simp] def b_RTEncode_5 (_ : Unit) : EB := .seq (hid b_RTEncode_4) .ret
@[simp] def b_RTEncode_6 (_ : Unit) : EB := .seq (hid b_RTEncode_2) (hid b_RTEncode_5)
def c_RTEncode : EB × List QOp × Nat := ((hid b_RTEncode_6), [(.mov (.t 2))], 5)
theorem k_RTEncode : cfun Tryz.prog 55 = some c_RTEncode := by kernel_rfl
set_option maxHeartbeats 8000000 in
theorem RCPut_ok (pre : List UInt8) (l : List Bra) (hl : ∀ b ∈ l, b.ok) (hn : l.length ≤ 100000000) (hs : pre.length + (cndB l).length ≤ 400000000) : ECalls Tryz.prog 150 [Bs pre, CNv l] [] fun y H' => H' = [some (RO (pre ++ cndB l))] ∧ y = R 0 (pre ++ cndB l) := by
  have hc0 : (cndB l).length = (uB (l.length : Int)).length + (brsB l).length := by simp [cndB]
  obtain ⟨F, hF⟩ : ∃ F : Nat → List UInt8, F = fun i => pre ++ uB (l.length : Int) ++ brsB (l.take i) := ⟨_, rfl⟩
  have hF0 : pre ++ uB (l.length : Int) = F 0 := by rw [hF]; simp [brsB]
  have hFl : ∀ i, (F i).length ≤ 400000000 := by
    intro i
    have hfl := flat_take braB l i
    rw [hF]; simp only [List.length_append]; unfold brsB at *; omega
  refine ecalls k_RCPut ?_
  simp [c_RCPut, CNv, Bs]
  refine ⟨⟨by omega, by omega⟩, ?_⟩
  simp only [wrap_u64n]
  refine call0 (RUint_ok pre (u64n (l.length : Int)) (u64n_lt _) (by omega)) (by simp [I, Bs, List.take_of_length_le]) ?_
  rintro y H' ⟨rfl, rfl⟩
  refine ⟨.inr ⟨rfl, by simp [RO, bsv, cb]⟩, le_ok rfl, ?_⟩
  simp only [uB_eq, hF0]
  simp [R, RO]
  refine eloop (α := Nat) (fun i => i ≤ l.length) (fun i => l.length - i)
    (fun i => [.any, .any, .any, Ptr 0, .any, R 1 (F i), I .i64 i, .any, .any, .any, .any, .any, .any, .any, .any, .any, .any, .any, .any, .any, .any, .any, .any, .any, .any, .any, .any, .any, .any, .any, .any, .any, .any, .any, .any, .any, .any, .any, .any, .any, .any, .any, .any, .any, .any, .any, .any, .any, .any, .any, .any, .any, .any, .any, .any, .any, .any, .any, .any, .any, .any, .any, .any]) (fun i => [some (.box 145 [.fz (.sl 35 (brav l))]), some (RO (F i))]) 0 [0, 160]
    (Nat.zero_le _) (by simp [Ptr, I, R]) (by simp [RO]) (by simp) (by simp) (by simp) ?_
  intro i hi
  have hX := hFl i
  simp [Ptr, I, R, RO]
  refine alt (fun hlt => ?_) (fun hlt => ?_)
  · have hln : i < l.length := by omega
    obtain ⟨b, hcx⟩ : ∃ b, l[i]? = some b := ⟨l[i], by simp [hln]⟩
    have hge : (brav l)[i]'(by simpa using hln) = braF b := by
      have e := brav_get hcx
      rw [List.getElem?_eq_getElem (by simpa using hln)] at e
      exact Option.some.inj e
    have hb := hl b (List.mem_of_getElem? hcx)
    obtain ⟨b1, b2, b3, b4, b5⟩ := id hb
    have l0 := bc_len b2
    have f0 := bf_len b2
    have tk := bc_take b2
    have lk : List.take 32 (braC b).tail = hc b.lock := by have := bc_lock b2; simpa using this
    have e0 := idx_of (bc_0 b) (by omega)
    have e33 := idx_of (bc_33 b2) (by omega)
    have e34 := idx_of (bc_34 b2) (by omega)
    have w1 : IntKind.i64.wrap ((i : Int) + 1) = ((i + 1 : Nat) : Int) := wrap_i64 (by omega) (by omega)
    have hfs := flat_take_s braB hcx
    have hbl : (braB b).length = (uB (b.keys.length : Int)).length + ((usB b.keys).length + (32 + ((uB b.af).length + (uB b.ol).length))) := by simp [braB, b2]
    have hXb : (F i).length + (braB b).length ≤ 400000000 := by
      rw [hF]; simp only [List.length_append]; unfold brsB at *; omega
    have hFs : F (i + 1) = F i ++ braB b := by rw [hF]; simp [take_s hcx, brsB_snoc]
    simp [hln, hge, braF_fz, l0, f0, tk, lk, e0, e33, e34, wrap_u64n, drop34z, iC, RO, R, Ptr]
    refine call0 (RUint_ok (F i) (u64n (b.keys.length : Int)) (u64n_lt _) (by omega)) (by simp [I, Bs, List.take_of_length_le]) ?_
    rintro y H' ⟨rfl, rfl⟩
    refine ⟨.inr ⟨rfl, by simp [RO, bsv, cb]⟩, le_ok rfl, ?_⟩
    obtain ⟨G, hG⟩ : ∃ G : Nat → List UInt8, G = fun j => F i ++ uB (b.keys.length : Int) ++ usB (b.keys.take j) := ⟨_, rfl⟩
    have hG0 : F i ++ uB (b.keys.length : Int) = G 0 := by rw [hG]; simp [usB]
    have hGl : ∀ j, (G j).length + 32 + (uB b.af).length + (uB b.ol).length ≤ 400000000 := by
      intro j
      have hfk := flat_take uB b.keys j
      rw [hG]; simp only [List.length_append]; unfold usB at *; omega
    simp only [uB_eq, hG0]
    simp [hln, hge, braF_fz, l0, f0, tk, lk, e0, e33, e34, wrap_u64n, drop34z, iC, RO, R, Ptr]
    refine eloop (α := Nat) (fun j => j ≤ b.keys.length) (fun j => b.keys.length - j)
      (fun j => [.any, .any, .any, Ptr 0, .any, R 1 (G j), I .i64 i, Ptr 2, I .i64 j, .any, .any, .any, .any, .any, .any, .any, .any, .any, .any, .any, .any, .any, .any, .any, .any, .any, .any, .any, .any, .any, .any, .any, .any, .any, .any, .any, .any, .any, .any, .any, .any, .any, .any, .any, .any, .any, .any, .any, .any, .any, .any, .any, .any, .any, .any, .any, .any, .any, .any, .any, .any, .any, .any])
      (fun j => [some (.box 145 [.fz (.sl 35 (brav l))]), some (RO (G j)), some (.box 150 (braC b))]) 0 [0, 274, 162]
      (Nat.zero_le _) (by simp [Ptr, I, R]) (by simp [RO]) (by simp) (by simp) (by simp) ?_
    intro j hj
    have hY := hGl j
    simp [Ptr, I, R, RO, l0, e0]
    refine alt (fun hlt2 => ?_) (fun hlt2 => ?_)
    · have hjn : j < b.keys.length := by omega
      obtain ⟨k, hc2⟩ : ∃ k, b.keys[j]? = some k := ⟨b.keys[j], by simp [hjn]⟩
      have hcb2 := intv_get hc2
      have w3 : IntKind.i64.wrap ((j : Int) + 1) = ((j + 1 : Nat) : Int) := wrap_i64 (by omega) (by omega)
      have hGs : G (j + 1) = G j ++ uB k := by rw [hG]; simp [take_s hc2, usB_snoc]
      simp [hcb2, hln, hge, braF_fz, l0, f0, tk, lk, e0, e33, e34, wrap_u64n, drop34z, iC, RO, R, Ptr]
      refine call0 (RUint_ok (G j) (u64n k) (u64n_lt _) (by omega)) (by simp [I, Bs, List.take_of_length_le]) ?_
      rintro y H' ⟨rfl, rfl⟩
      refine ⟨.inr ⟨rfl, by simp [RO, bsv, cb]⟩, le_ok rfl, ?_⟩
      simp only [uB_eq, ← hGs]
      simp [R, RO, w3, -Int.natCast_add]
      exact round (j + 1) [0, 195, 2] (by omega) (by omega) (by simp [Ptr, I, R]) (by simp [RO]) (by simp) (by simp) (by simp)
    have hjl : j = b.keys.length := by omega
    subst hjl
    simp [hln, hge, braF_fz, l0, f0, tk, lk, e0, e33, e34, wrap_u64n, drop34z, iC, RO, R, Ptr]
    refine call0 (RHash_ok (G b.keys.length) b.lock (by omega) b2) (by simp [Ag, Bs, List.take_of_length_le, lk]) ?_
    rintro y H' ⟨rfl, rfl⟩
    refine ⟨.inr ⟨rfl, by simp [RO, bsv, cb]⟩, le_ok rfl, ?_⟩
    simp [hln, hge, braF_fz, l0, f0, tk, lk, e0, e33, e34, wrap_u64n, drop34z, iC, RO, R, Ptr]
    refine call0 (RUint_ok (G b.keys.length ++ b.lock) (u64n b.af) (u64n_lt _) (by simp; omega)) (by simp [I, Bs, List.take_of_length_le]) ?_
    rintro y H' ⟨rfl, rfl⟩
    refine ⟨.inr ⟨rfl, by simp [RO, bsv, cb]⟩, le_ok rfl, ?_⟩
    simp only [uB_eq]
    simp [hln, hge, braF_fz, l0, f0, tk, lk, e0, e33, e34, wrap_u64n, drop34z, iC, RO, R, Ptr]
    refine call0 (RUint_ok (G b.keys.length ++ b.lock ++ uB b.af) (u64n b.ol) (u64n_lt _) (by simp; omega)) (by simp [I, Bs, List.take_of_length_le]) ?_
    rintro y H' ⟨rfl, rfl⟩
    refine ⟨.inr ⟨rfl, by simp [RO, bsv, cb]⟩, le_ok rfl, ?_⟩
    have hGe : G b.keys.length ++ b.lock ++ uB b.af ++ uB b.ol = F (i + 1) := by rw [hFs, hG]; simp [braB]
    simp only [uB_eq, hGe]
    simp [R, RO, Ptr, w1, -Int.natCast_add]
    exact round (i + 1) [0, 259] (by omega) (by omega) (by simp [Ptr, I, R]) (by simp [RO]) (by simp) (by simp) (by simp)
  have hil : i = l.length := by omega
  subst hil
  have hXc : pre ++ cndB l = F l.length := by rw [hF]; simp [cndB]
  simp
  exact fin [1] (by decide) rfl rfl rfl ⟨by simp [hXc, RO], by simp [← hXc, R]⟩
set_option maxHeartbeats 16000000 in
theorem RTPut_ok (t : Txn) (ht : t.ok) (hsec : ∀ x ∈ t.ins, x.sec.length ≤ 10000000) (hs : (encT t).length ≤ 400000000) : ECalls Tryz.prog 99 [TXv t, .lit (.bool true)] [] fun y H' => H' = [] ∧ y = Bs (encT t) := by
  obtain ⟨t1, t2, t3, t4, t5⟩ := id ht
  have hlen : (encT t).length = (uB t.lk).length + (uB (t.ins.length : Int)).length + (insB t.ins).length + (uB (t.outs.length : Int)).length + (ousB t.outs).length := by simp [encT, mdB, hdB]; try omega
  obtain ⟨F, hF⟩ : ∃ F : Nat → List UInt8, F = fun i => hdB t ++ insB (t.ins.take i) := ⟨_, rfl⟩
  have hF0 : uB t.lk ++ uB (t.ins.length : Int) = F 0 := by rw [hF]; simp [insB, hdB]
  have hFl : ∀ i, (F i).length ≤ 400000000 := by
    intro i
    have hfl := flat_take inpB t.ins i
    rw [hF]; simp only [List.length_append, hdB]; unfold insB at *; omega
  have hFe : F t.ins.length = hdB t ++ insB t.ins := by rw [hF]; simp
  obtain ⟨K, hK⟩ : ∃ K : Nat → List UInt8, K = fun i => mdB t ++ ousB (t.outs.take i) := ⟨_, rfl⟩
  have hK0 : F t.ins.length ++ uB (t.outs.length : Int) = K 0 := by rw [hK, hFe]; simp [ousB, mdB]
  have hKl : ∀ i, (K i).length ≤ 400000000 := by
    intro i
    have hfl := flat_take oupB t.outs i
    rw [hK]; simp only [List.length_append, hdB, mdB]; unfold ousB at *; omega
  refine ecalls k_RTPut ?_
  simp [c_RTPut, TXv, txC, iC, wrap_u64n]
  refine call0 (RUint_nil (u64n t.lk) (u64n_lt _)) (by simp [I]) ?_
  rintro y H' ⟨rfl, rfl⟩
  refine ⟨.inl (by simp), le_ok rfl, ?_⟩
  simp only [uB_eq]
  simp [R, RO, wrap_u64n]
  refine call0 (RUint_ok (uB t.lk) (u64n (t.ins.length : Int)) (u64n_lt _) (by omega)) (by simp [I, Bs, List.take_of_length_le]) ?_
  rintro y H' ⟨rfl, rfl⟩
  refine ⟨.inr ⟨rfl, by simp [RO, bsv, cb]⟩, le_ok rfl, ?_⟩
  simp only [uB_eq, hF0]
  simp [R, RO, wrap_u64n]
  refine eloop (α := Nat) (fun i => i ≤ t.ins.length) (fun i => t.ins.length - i)
    (fun i => [.any, .lit (.bool true), Ptr 0, .any, .any, R 1 (F i), I .i64 i, .any, .any, .any, .any, .any, .any, .any, .any, .any, .any, .any, .any, .any, .any, .any, .any, .any, .any, .any, .any, .any, .any, .any, .any, .any, .any, .any, .any, .any, .any, .any, .any, .any, .any, .any, .any, .any, .any, .any, .any, .any, .any, .any, .any, .any, .any, .any, .any, .any, .any, .any, .any, .any, .any, .any, .any, .any, .any, .any, .any, .any, .any, .any, .any, .any, .any, .any, .any, .any, .any, .any, .any, .any, .any]) (fun i => [some (.box 69 (txC t)), some (RO (F i))]) 0 [0, 160]
    (Nat.zero_le _) (by simp [Ptr, I, R]) (by simp [RO, txC, iC]) (by simp) (by simp) (by simp) ?_
  intro i hi
  have hX := hFl i
  simp [Ptr, I, R, RO, txC, iC]
  refine alt (fun hlt => ?_) (fun hlt => ?_)
  · have hln : i < t.ins.length := by omega
    obtain ⟨x, hcx⟩ : ∃ x, t.ins[i]? = some x := ⟨t.ins[i], by simp [hln]⟩
    have hge : (inpv t.ins)[i]'(by simpa using hln) = inpF x := by
      have e := inpv_get hcx
      rw [List.getElem?_eq_getElem (by simpa using hln)] at e
      exact Option.some.inj e
    have hx := t2 x (List.mem_of_getElem? hcx)
    obtain ⟨x1, x2, x3, x4⟩ := id hx
    have x5 := hsec x (List.mem_of_getElem? hcx)
    have l0 := ic_len x1
    have f0 := if_len x1
    have tk := ic_take x1
    have th := ic_hash x1
    have e32 := idx_of (ic_32 x1) (by omega)
    have e33 := idx_of (ic_33 x1) (by omega)
    have e34 := idx_of (ic_34 x1) (by omega)
    have w1 : IntKind.i64.wrap ((i : Int) + 1) = ((i + 1 : Nat) : Int) := wrap_i64 (by omega) (by omega)
    have hfs := flat_take_s inpB hcx
    have hbl : (inpB x).length = 32 + ((uB x.n).length + ((uB x.br).length + (bytesB x.sec).length)) := by simp [inpB, x1]
    have hXb : (F i).length + (inpB x).length ≤ 400000000 := by
      rw [hF]; simp only [List.length_append, hdB]; unfold insB at *; omega
    have hFs : F (i + 1) = F i ++ inpB x := by rw [hF]; simp [take_s hcx, insB_snoc]
    simp [hln, hge, inpF_fz, l0, f0, tk, th, e32, e33, e34, wrap_u64n, drop35h, iC, RO, R, Ptr]
    refine call0 (RHash_ok (F i) x.tx (by omega) x1) (by simp [Ag, Bs, List.take_of_length_le]) ?_
    rintro y H' ⟨rfl, rfl⟩
    refine ⟨.inr ⟨rfl, by simp [RO, bsv, cb]⟩, le_ok rfl, ?_⟩
    simp [hln, hge, inpF_fz, l0, f0, tk, th, e32, e33, e34, wrap_u64n, drop35h, iC, RO, R, Ptr]
    refine call0 (RUint_ok (F i ++ x.tx) (u64n x.n) (u64n_lt _) (by simp; omega)) (by simp [I, Bs, List.take_of_length_le]) ?_
    rintro y H' ⟨rfl, rfl⟩
    refine ⟨.inr ⟨rfl, by simp [RO, bsv, cb]⟩, le_ok rfl, ?_⟩
    simp only [uB_eq]
    simp [hln, hge, inpF_fz, l0, f0, tk, th, e32, e33, e34, wrap_u64n, drop35h, iC, RO, R, Ptr]
    refine call0 (RUint_ok (F i ++ x.tx ++ uB x.n) (u64n x.br) (u64n_lt _) (by simp; omega)) (by simp [I, Bs, List.take_of_length_le]) ?_
    rintro y H' ⟨rfl, rfl⟩
    refine ⟨.inr ⟨rfl, by simp [RO, bsv, cb]⟩, le_ok rfl, ?_⟩
    simp only [uB_eq]
    simp [hln, hge, inpF_fz, l0, f0, tk, th, e32, e33, e34, wrap_u64n, drop35h, iC, RO, R, Ptr]
    refine call0 (RBytes_ok (F i ++ x.tx ++ uB x.n ++ uB x.br) x.sec (by simp; omega) (by omega)) (by simp [Bs, List.take_of_length_le]) ?_
    rintro y H' ⟨rfl, rfl⟩
    refine ⟨.inr ⟨rfl, by simp [RO, bsv, cb]⟩, le_ok rfl, ?_⟩
    have hGe : F i ++ x.tx ++ uB x.n ++ uB x.br ++ bytesB x.sec = F (i + 1) := by rw [hFs]; simp [inpB]
    simp only [hGe]
    simp [R, RO, Ptr, w1, -Int.natCast_add]
    exact round (i + 1) [0, 498] (by omega) (by omega) (by simp [Ptr, I, R]) (by simp [RO, txC, iC]) (by simp) (by simp) (by simp)
  have hil : i = t.ins.length := by omega
  subst hil
  simp [wrap_u64n]
  refine call0 (RUint_ok (F t.ins.length) (u64n (t.outs.length : Int)) (u64n_lt _) (by omega)) (by simp [I, Bs, List.take_of_length_le]) ?_
  rintro y H' ⟨rfl, rfl⟩
  refine ⟨.inr ⟨rfl, by simp [RO, bsv, cb]⟩, le_ok rfl, ?_⟩
  simp only [uB_eq, hK0]
  simp [R, RO]
  refine eloop (α := Nat) (fun i => i ≤ t.outs.length) (fun i => t.outs.length - i)
    (fun i => [.any, .any, Ptr 0, .any, .any, R 1 (K i), .any, .any, I .i64 i, .any, .any, .any, .any, .any, .any, .any, .any, .any, .any, .any, .any, .any, .any, .any, .any, .any, .any, .any, .any, .any, .any, .any, .any, .any, .any, .any, .any, .any, .any, .any, .any, .any, .any, .any, .any, .any, .any, .any, .any, .any, .any, .any, .any, .any, .any, .any, .any, .any, .any, .any, .any, .any, .any, .any, .any, .any, .any, .any, .any, .any, .any, .any, .any, .any, .any, .any, .any, .any, .any, .any, .any]) (fun i => [some (.box 69 (txC t)), some (RO (K i))]) 0 [0, 162]
    (Nat.zero_le _) (by simp [Ptr, I, R]) (by simp [RO, txC, iC]) (by simp) (by simp) (by simp) ?_
  intro i hi
  have hX := hKl i
  simp [Ptr, I, R, RO, txC, iC]
  refine alt (fun hlt => ?_) (fun hlt => ?_)
  · have hln : i < t.outs.length := by omega
    obtain ⟨x, hcx⟩ : ∃ x, t.outs[i]? = some x := ⟨t.outs[i], by simp [hln]⟩
    have hge : (outv t.outs)[i]'(by simpa using hln) = outF x := by
      have e := outv_get hcx
      rw [List.getElem?_eq_getElem (by simpa using hln)] at e
      exact Option.some.inj e
    obtain ⟨x1, x2, x3⟩ := t3 x (List.mem_of_getElem? hcx)
    have w1 : IntKind.i64.wrap ((i : Int) + 1) = ((i + 1 : Nat) : Int) := wrap_i64 (by omega) (by omega)
    have hfs := flat_take_s oupB hcx
    have hbl : (oupB x).length = (uB x.am).length + (cndB x.cs).length := by simp [oupB]
    have hXb : (K i).length + (oupB x).length ≤ 400000000 := by
      rw [hK]; simp only [List.length_append, hdB, mdB]; unfold ousB at *; omega
    have hKs : K (i + 1) = K i ++ oupB x := by rw [hK]; simp [take_s hcx, ousB_snoc]
    simp [hln, hge, outF, iF, wrap_u64n]
    refine call0 (RUint_ok (K i) (u64n x.am) (u64n_lt _) (by omega)) (by simp [I, Bs, List.take_of_length_le]) ?_
    rintro y H' ⟨rfl, rfl⟩
    refine ⟨.inr ⟨rfl, by simp [RO, bsv, cb]⟩, le_ok rfl, ?_⟩
    simp only [uB_eq]
    simp [hln, hge, outF, iF, R, RO, wrap_u64n]
    refine call0 (RCPut_ok (K i ++ uB x.am) x.cs x2 x3 (by simp; omega)) (by simp [CNv, Bs, List.take_of_length_le]) ?_
    rintro y H' ⟨rfl, rfl⟩
    refine ⟨.inr ⟨rfl, by simp [RO, bsv, cb]⟩, le_ok rfl, ?_⟩
    have hGe : K i ++ uB x.am ++ cndB x.cs = K (i + 1) := by rw [hKs]; simp [oupB]
    simp only [hGe]
    simp [R, RO, w1, -Int.natCast_add]
    exact round (i + 1) [0, 322] (by omega) (by omega) (by simp [R, I, Ptr]) (by simp [RO, txC, iC]) (by simp) (by simp) (by simp)
  have hil : i = t.outs.length := by omega
  subst hil
  have hKe : K t.outs.length = encT t := by rw [hK]; simp [encT]
  simp
  refine finW _ (weak_frz (o := 1) (ty := 5) (es := 1) (xs := bsv (K t.outs.length)) rfl) ?_
  exact fin [] (by decide) rfl rfl rfl ⟨rfl, by simp [Bs, hKe, List.take_of_length_le]⟩
set_option maxHeartbeats 4000000 in
theorem RTEncode_ok (t : Txn) (ht : t.ok) (hsec : ∀ x ∈ t.ins, x.sec.length ≤ 10000000) (hs : (encT t).length ≤ 400000000) : ECalls Tryz.prog 55 [TXv t] [] fun y H' => H' = [] ∧ y = Bs (encT t) := by
  refine ecalls k_RTEncode ?_
  simp [c_RTEncode, TXv, txC, iC]
  refine call0 (RTPut_ok t ht hsec hs) (by simp [TXv, txC, iC]) ?_
  rintro y H' ⟨rfl, rfl⟩
  refine ⟨.inl (by simp [Bs]), le_ok rfl, ?_⟩
  simp [Bs]
  exact fin [] (by decide) rfl rfl rfl ⟨rfl, rfl⟩
end Go.Proofs.YtflcfdeanneoeaaGreatDoor
namespace Go.Proofs.YtflcfdeanneoeaaGreatDoor
open Go Go.EW
set_option linter.unusedSimpArgs false
set_option linter.unusedVariables false
end Go.Proofs.YtflcfdeanneoeaaGreatDoor
namespace Go.Proofs.YtflcfdeanneoeaaGreatDoor
open Go Go.EW
set_option linter.unusedSimpArgs false
set_option linter.unusedVariables false
def Bra.sm (b : Bra) : Prop := b.lock.length = 32 ∧ b.keys.length ≤ 1000
def Outp.sm (o : Outp) : Prop := (∀ b ∈ o.cs, b.sm) ∧ o.cs.length ≤ 100
def Inp.sm (x : Inp) : Prop := x.tx.length = 32 ∧ x.sec.length ≤ 10000
def Txn.sm (t : Txn) : Prop := (∀ x ∈ t.ins, x.sm) ∧ (∀ o ∈ t.outs, o.sm) ∧ t.ins.length ≤ 400 ∧ t.outs.length ≤ 400
theorem braB_le {b : Bra} (h : b.sm) : (braB b).length ≤ 9100 := by
  have h1 := uB_len (b.keys.length : Int)
  have h2 := usB_len b.keys
  have h3 := uB_len b.af
  have h4 := uB_len b.ol
  obtain ⟨q1, q2⟩ := h
  simp only [braB, List.length_append]
  omega
theorem cndB_le {l : List Bra} (h : ∀ b ∈ l, b.sm) (hn : l.length ≤ 100) : (cndB l).length ≤ 920000 := by
  have h1 := uB_len (l.length : Int)
  have h2 : (brsB l).length ≤ 9100 * l.length := flat_len fun b hb => braB_le (h b hb)
  simp only [cndB, List.length_append]
  omega
theorem oupB_le {o : Outp} (h : o.sm) : (oupB o).length ≤ 930000 := by
  have h1 := uB_len o.am
  have h2 := cndB_le h.1 h.2
  simp only [oupB, List.length_append]
  omega
theorem inpB_le {x : Inp} (h : x.sm) : (inpB x).length ≤ 20100 := by
  have h1 := uB_len x.n
  have h2 := uB_len x.br
  have h3 := stuff_len x.sec
  obtain ⟨q1, q2⟩ := h
  simp only [inpB, bytesB, List.length_append, List.length_cons, List.length_nil]
  omega
theorem encT_le {t : Txn} (h : t.sm) : (encT t).length ≤ 400000000 := by
  obtain ⟨q1, q2, q3, q4⟩ := h
  have h1 := uB_len t.lk
  have h2 := uB_len (t.ins.length : Int)
  have h3 := uB_len (t.outs.length : Int)
  have h4 : (insB t.ins).length ≤ 20100 * t.ins.length := flat_len fun x hx => inpB_le (q1 x hx)
  have h5 : (ousB t.outs).length ≤ 930000 * t.outs.length := flat_len fun x hx => oupB_le (q2 x hx)
  simp only [encT, mdB, hdB, List.length_append]
  omega
theorem sm_sec {t : Txn} (h : t.sm) : ∀ x ∈ t.ins, x.sec.length ≤ 10000000 := fun x hx => by have := (h.1 x hx).2; omega
theorem zTx_okS : zTx.ok ∧ zTx.sm := by simp [zTx, Txn.ok, Txn.sm, i64]
theorem donT_ok {t : Txn} (h : t.ok ∧ t.sm) : (donT t).1.ok ∧ (donT t).1.sm := by
  unfold donT
  split
  · exact zTx_okS
  · exact h
end Go.Proofs.YtflcfdeanneoeaaGreatDoor
namespace Go.Proofs.YtflcfdeanneoeaaGreatDoor
open Go Go.EW
set_option linter.unusedSimpArgs false
set_option linter.unusedVariables false
@[simp] def l_same_1 (_ : Unit) : List EOp := [xQ 0 4 (.box 63 (.t 0)), xQ 1 6 (.box 69 (.t 2)), xQ 2 8 (.mov (.k (.bool false)))]
@[simp] def b_same_2 (_ : Unit) : EB := reg0 (hid l_same_1) 3
@[simp] def l_same_5 (_ : Unit) : List EOp := [xQ 12 21 (.pick (.t 13) (.t 20) (.k (.bool false))), xM 13 8 21]
@[simp] def l_same_4 (_ : Unit) : List EOp := xG 8 17 13 true (.lda 3 (.t 6)) :: ⟨6, (some 15), (some (13, true)), (.call 54 [(.t 14)]), [8]⟩ :: xG 7 16 13 true (.b2s (.t 15)) :: ⟨9, (some 18), (some (13, true)), (.call 55 [(.t 17)]), [7]⟩ :: xG 10 19 13 true (.b2s (.t 18)) :: xG 11 20 13 true (.bin .eql (.t 16) (.t 19)) :: hid l_same_5
@[simp] def l_same_3 (_ : Unit) : List EOp := xM 0 9 1 :: xM 2 11 3 :: ⟨1, (some 10), none, (.call 17 [(.t 9)]), [2]⟩ :: xQ 3 12 (.bin .eql (.t 10) (.t 11)) :: xM 4 13 12 :: xG 5 14 13 true (.lda 3 (.t 4)) :: hid l_same_4
@[simp] def b_same_6 (_ : Unit) : EB := reg1 (hid l_same_3) 14
@[simp] def b_same_7 (_ : Unit) : EB := .seq (hid b_same_6) .ret
@[simp] def b_same_8 (_ : Unit) : EB := .seq (hid b_same_2) (hid b_same_7)
def c_same : EB × List QOp × Nat := ((hid b_same_8), [(.mov (.t 8))], 22)
theorem k_same : cfun Tryz.prog 22 = some c_same := by kernel_rfl
set_option maxHeartbeats 4000000 in
theorem same_ok (t : Txn) (e : Nat) (ht : t.ok) (hs : t.sm) : ECalls Tryz.prog 22 [TXv t, .lit (errV e), TXv t, I .i64 e] [] fun y H' => H' = [] ∧ y = .lit (.bool true) := by
  have e1 := TEncode_ok t ht (sm_sec hs) (encT_le hs)
  have e2 := RTEncode_ok t ht (sm_sec hs) (encT_le hs)
  refine ecalls k_same ?_
  simp [c_same, TXv, txC, iC, I, -errV_0]
  refine call0 (num_e e) (by simp) ?_
  rintro z H' ⟨rfl, rfl⟩
  refine ⟨.inl (by simp [I]), le_ok rfl, ?_⟩
  simp [I, TXv, txC, iC, -errV_0]
  refine call0 e1 (by simp [TXv, txC, iC]) ?_
  rintro z H' ⟨rfl, rfl⟩
  refine ⟨.inl (by simp [Bs]), le_ok rfl, ?_⟩
  simp [Bs, txC, iC, -errV_0]
  refine call0 e2 (by simp [TXv, txC, iC]) ?_
  rintro z H' ⟨rfl, rfl⟩
  refine ⟨.inl (by simp [Bs]), le_ok rfl, ?_⟩
  simp [Bs, txC, iC, -errV_0]
  exact fin [] (by decide) rfl rfl rfl ⟨rfl, rfl⟩
theorem outsB_sm {p : Prm} {s : Sta} {o : Int} {lock : List UInt8} (hs : s.ok) (hl : lock.length = 32) (h : bldE p s = 0) : (∀ x ∈ outsB p s o lock, x.sm) := by
  obtain ⟨k1, k2, k3, k4⟩ := outs_cond h
  obtain ⟨ok1, ok2, ok3, ok4, ok5, ok6, ok7⟩ := id hs
  have hz' : hz.length = 32 := rfl
  intro x hx
  unfold outsB at hx
  simp only [List.mem_append] at hx
  rcases hx with (hx | hx) | (hx | hx)
  · unfold out1 at hx
    split at hx
    · simp at hx; subst hx
      refine ⟨?_, by simp [ownB]⟩
      intro b hb
      simp [ownB] at hb
      rcases hb with rfl | rfl
      · exact ⟨hz', by simp⟩
      · exact ⟨hl, by simp [fineB]⟩
    · simp at hx
  · unfold out2 at hx
    split at hx
    · simp at hx; subst hx
      refine ⟨?_, by simp [allB]⟩
      intro b hb
      simp [allB] at hb
      subst hb
      exact ⟨hz', by simp [insN_len]⟩
    · simp at hx
  · obtain ⟨y, hy, rfl⟩ := List.mem_map.1 hx
    have hyo := ok4 y hy
    refine ⟨?_, by simp [paidB]⟩
    intro b hb
    simp [paidB] at hb
    rcases hb with rfl | rfl | rfl
    · exact ⟨hyo.2.2.2.2, by simp⟩
    · exact ⟨hz', by simp⟩
    · exact ⟨hl, by simp [fineB]⟩
  · obtain ⟨y, hy, rfl⟩ := List.mem_map.1 hx
    have hk := k4 y hy
    refine ⟨?_, by simp [allB]⟩
    intro b hb
    simp [allB] at hb
    subst hb
    have := hk.2.1
    exact ⟨hz', by simp [insN_len]; omega⟩
theorem cmtS_ok {p : Prm} {s : Sta} {o : Int} {lock : List UInt8} (hp : p.ok) (hs : s.ok) (hl : lock.length = 32) : (cmtS p s o lock).1.ok ∧ (cmtS p s o lock).1.sm := by
  unfold cmtS
  split
  · exact zTx_okS
  rename_i c
  split
  · exact zTx_okS
  have c := Classical.not_not.1 c
  refine donT_ok ⟨cmtT_ok hp hs hl c, ?_, outsB_sm hs hl c, by simp [cmtT], by have := (outsB_ok (o := o) hp hs hl c).2; show (outsB p s o lock).length ≤ _; omega⟩
  intro x hx
  simp [cmtT] at hx
  subst hx
  exact ⟨hp.1, by simp⟩
end Go.Proofs.YtflcfdeanneoeaaGreatDoor
namespace Go.Proofs.YtflcfdeanneoeaaGreatDoor
open Go Go.EW
set_option linter.unusedSimpArgs false
set_option linter.unusedVariables false
@[simp] def l_BuildCommits_1 (_ : Unit) : List EOp := [xQ 0 3 (.box 28 (.t 0)), xQ 1 4 (.box 32 (.t 1)), xQ 2 5 (.box 59 (.t 2)), xQ 3 6 (.mov (.k (.bool false)))]
@[simp] def b_BuildCommits_2 (_ : Unit) : EB := reg0 (hid l_BuildCommits_1) 4
@[simp] def l_BuildCommits_4 (_ : Unit) : List EOp := [xN 6 (.sto 32 (.t 8) (.t 23))]
@[simp] def l_BuildCommits_3 (_ : Unit) : List EOp := xQ 0 20 (.fad 0 (.t 5)) :: xQ 1 21 (.ldc (.t 20)) :: xQ 2 22 (.fad 1 (.t 5)) :: xQ 3 23 (.lda 32 (.t 22)) :: xQ 4 8 (.alloc 23 zU8) :: xM 5 7 21 :: hid l_BuildCommits_4
@[simp] def b_BuildCommits_5 (_ : Unit) : EB := reg0 (hid l_BuildCommits_3) 7
@[simp] def l_BuildCommits_6 (_ : Unit) : List EOp := [xQ 0 24 (.lda 5 (.t 4)), xO 1 25 (.call 11 [(.t 24)])]
@[simp] def b_BuildCommits_7 (_ : Unit) : EB := reg0 (hid l_BuildCommits_6) 2
@[simp] def l_BuildCommits_8 (_ : Unit) : List EOp := [xO 0 26 (.call 12 []), xM 1 6 26]
@[simp] def b_BuildCommits_9 (_ : Unit) : EB := reg0 (hid l_BuildCommits_8) 2
@[simp] def b_BuildCommits_10 (_ : Unit) : EB := .seq (hid b_BuildCommits_9) .ret
@[simp] def b_BuildCommits_11 (_ : Unit) : EB := .cond (.t 25) (hid b_BuildCommits_10) .skip
@[simp] def b_BuildCommits_12 (_ : Unit) : EB := .seq (hid b_BuildCommits_7) (hid b_BuildCommits_11)
@[simp] def l_BuildCommits_14 (_ : Unit) : List EOp := [xN 6 (.sto 38 (.t 9) (.t 28)), xN 7 (.fz (.sto 5 (.t 10) (.t 30)))]
@[simp] def l_BuildCommits_13 (_ : Unit) : List EOp := xQ 0 27 (.lda 38 (.t 3)) :: xQ 2 29 (.lda 5 (.t 4)) :: xQ 4 9 (.alloc 42 (zU8 ++ [(.int .i64 0), (.int .i64 0), (.int .i64 0), (.int .i64 0), (.int .i64 0), (.int .i64 0)])) :: xQ 5 10 (.alloc 47 [(.int .i64 0), (.int .i64 0), (.int .i64 0), (.slice none 0 0), (.slice none 0 0)]) :: ⟨1, (some 28), none, (.call 14 [(.t 27)]), [2, 4, 5]⟩ :: ⟨3, (some 30), none, (.call 15 [(.t 29)]), [4, 5]⟩ :: hid l_BuildCommits_14
@[simp] def b_BuildCommits_15 (_ : Unit) : EB := reg1 (hid l_BuildCommits_13) 8
@[simp] def l_BuildCommits_17 (_ : Unit) : List EOp := [xQ 6 37 (.ext 0 (.t 31)), xQ 7 38 (.ext 1 (.t 31)), xQ 8 11 (.alloc 63 [(.int .i64 0), (.slice none 0 0), (.slice none 0 0)]), xN 9 (.fz (.sto 3 (.t 11) (.t 37))), xM 10 12 38]
@[simp] def l_BuildCommits_16 (_ : Unit) : List EOp := xQ 0 32 (.lda 38 (.t 9)) :: xQ 1 33 (.lda 5 (.t 10)) :: xM 2 34 7 :: xQ 3 35 (.lda 32 (.t 8)) :: xO 4 36 (.call 18 [(.t 32), (.t 33), (.t 34), (.t 35)]) :: xM 5 31 36 :: hid l_BuildCommits_17
@[simp] def b_BuildCommits_18 (_ : Unit) : EB := reg0 (hid l_BuildCommits_16) 11
@[simp] def l_BuildCommits_20 (_ : Unit) : List EOp := [xQ 6 45 (.ext 0 (.t 39)), xQ 7 46 (.ext 1 (.t 39)), xQ 8 13 (.alloc 69 [(.int .i64 0), (.slice none 0 0), (.slice none 0 0)]), xN 9 (.fz (.sto 3 (.t 13) (.t 45))), xM 10 14 46]
@[simp] def l_BuildCommits_19 (_ : Unit) : List EOp := xQ 0 40 (.lda 38 (.t 3)) :: xQ 1 41 (.lda 5 (.t 4)) :: xM 2 42 7 :: xQ 3 43 (.lda 32 (.t 8)) :: xO 4 44 (.call 19 [(.t 40), (.t 41), (.t 42), (.t 43)]) :: xM 5 39 44 :: hid l_BuildCommits_20
@[simp] def b_BuildCommits_21 (_ : Unit) : EB := reg0 (hid l_BuildCommits_19) 11
@[simp] def l_BuildCommits_23 (_ : Unit) : List EOp := [xQ 6 53 (.ext 1 (.t 47)), xM 7 15 52, xM 8 16 53]
@[simp] def l_BuildCommits_22 (_ : Unit) : List EOp := xQ 0 48 (.lda 38 (.t 9)) :: xQ 1 49 (.lda 5 (.t 10)) :: xM 2 50 7 :: xO 3 51 (.call 13 [(.t 48), (.t 49), (.t 50)]) :: xM 4 47 51 :: xQ 5 52 (.ext 0 (.t 47)) :: hid l_BuildCommits_23
@[simp] def b_BuildCommits_24 (_ : Unit) : EB := reg0 (hid l_BuildCommits_22) 9
@[simp] def l_BuildCommits_26 (_ : Unit) : List EOp := [xQ 6 60 (.ext 1 (.t 54)), xM 7 17 59, xM 8 18 60]
@[simp] def l_BuildCommits_25 (_ : Unit) : List EOp := xQ 0 55 (.lda 38 (.t 3)) :: xQ 1 56 (.lda 5 (.t 4)) :: xM 2 57 7 :: xO 3 58 (.call 16 [(.t 55), (.t 56), (.t 57)]) :: xM 4 54 58 :: xQ 5 59 (.ext 0 (.t 54)) :: hid l_BuildCommits_26
@[simp] def b_BuildCommits_27 (_ : Unit) : EB := reg0 (hid l_BuildCommits_25) 9
@[simp] def l_BuildCommits_31 (_ : Unit) : List EOp := [⟨18, (some 79), (some (72, false)), (.call 21 [(.t 77), (.t 78)]), []⟩, xG 19 80 72 false (.bin .neq (.t 76) (.t 79)), xQ 20 81 (.pick (.t 72) (.k (.bool true)) (.t 80))]
@[simp] def l_BuildCommits_30 (_ : Unit) : List EOp := xG 12 73 72 false (.lda 38 (.t 9)) :: xG 13 74 72 false (.lda 5 (.t 10)) :: xG 16 77 72 false (.lda 38 (.t 3)) :: xG 17 78 72 false (.lda 5 (.t 4)) :: ⟨14, (some 75), (some (72, false)), (.call 20 [(.t 73), (.t 74)]), [16, 17]⟩ :: ⟨15, (some 76), (some (72, false)), (.call 17 [(.t 75)]), [16, 17]⟩ :: hid l_BuildCommits_31
@[simp] def l_BuildCommits_29 (_ : Unit) : List EOp := xG 6 67 66 false (.mov (.t 16)) :: xG 8 69 66 false (.mov (.t 18)) :: ⟨7, (some 68), (some (66, false)), (.call 17 [(.t 67)]), [8]⟩ :: xG 9 70 66 false (.bin .neq (.t 68) (.t 69)) :: xQ 10 71 (.pick (.t 66) (.k (.bool true)) (.t 70)) :: xM 11 72 71 :: hid l_BuildCommits_30
@[simp] def l_BuildCommits_28 (_ : Unit) : List EOp := xM 0 61 15 :: xQ 1 62 (.len (.t 61)) :: xM 2 63 17 :: xQ 3 64 (.len (.t 63)) :: xQ 4 65 (.bin .neq (.t 62) (.t 64)) :: xM 5 66 65 :: hid l_BuildCommits_29
@[simp] def b_BuildCommits_32 (_ : Unit) : EB := reg1 (hid l_BuildCommits_28) 21
@[simp] def l_BuildCommits_33 (_ : Unit) : List EOp := [xQ 0 6 (.mov (.k (.bool false)))]
@[simp] def b_BuildCommits_34 (_ : Unit) : EB := reg0 (hid l_BuildCommits_33) 1
@[simp] def b_BuildCommits_35 (_ : Unit) : EB := .seq (hid b_BuildCommits_34) .ret
@[simp] def b_BuildCommits_36 (_ : Unit) : EB := .cond (.t 81) (hid b_BuildCommits_35) .skip
@[simp] def b_BuildCommits_37 (_ : Unit) : EB := .seq (hid b_BuildCommits_32) (hid b_BuildCommits_36)
@[simp] def l_BuildCommits_38 (_ : Unit) : List EOp := [xQ 0 19 (.mov (.k (.int .i64 0)))]
@[simp] def b_BuildCommits_39 (_ : Unit) : EB := reg0 (hid l_BuildCommits_38) 1
@[simp] def l_BuildCommits_40 (_ : Unit) : List EOp := [xM 0 82 19, xM 1 83 15, xQ 2 84 (.len (.t 83)), xQ 3 85 (.bin .lss (.t 82) (.t 84))]
@[simp] def b_BuildCommits_41 (_ : Unit) : EB := reg0 (hid l_BuildCommits_40) 4
@[simp] def b_BuildCommits_42 (_ : Unit) : EB := .cond (.t 85) .skip (.exit 0)
@[simp] def b_BuildCommits_43 (_ : Unit) : EB := .seq (hid b_BuildCommits_41) (hid b_BuildCommits_42)
@[simp] def l_BuildCommits_45 (_ : Unit) : List EOp := [xQ 6 94 (.isl 2 (.t 92) (.t 93)), xQ 7 95 (.lda 2 (.t 94)), xQ 8 96 (.eqw true [(2, .i64)] (.t 91) (.t 95))]
@[simp] def l_BuildCommits_44 (_ : Unit) : List EOp := xM 0 88 15 :: xM 1 89 19 :: xQ 2 90 (.isl 2 (.t 88) (.t 89)) :: xQ 3 91 (.lda 2 (.t 90)) :: xM 4 92 17 :: xM 5 93 19 :: hid l_BuildCommits_45
@[simp] def b_BuildCommits_46 (_ : Unit) : EB := reg0 (hid l_BuildCommits_44) 9
@[simp] def l_BuildCommits_47 (_ : Unit) : List EOp := [xQ 0 6 (.mov (.k (.bool false)))]
@[simp] def b_BuildCommits_48 (_ : Unit) : EB := reg0 (hid l_BuildCommits_47) 1
@[simp] def b_BuildCommits_49 (_ : Unit) : EB := .seq (hid b_BuildCommits_48) .ret
@[simp] def b_BuildCommits_50 (_ : Unit) : EB := .cond (.t 96) (hid b_BuildCommits_49) .skip
@[simp] def b_BuildCommits_51 (_ : Unit) : EB := .seq (hid b_BuildCommits_46) (hid b_BuildCommits_50)
@[simp] def b_BuildCommits_52 (_ : Unit) : EB := .block 1 (hid b_BuildCommits_51)
@[simp] def l_BuildCommits_53 (_ : Unit) : List EOp := [xM 0 86 19, xQ 1 87 (.bin .add (.t 86) (.k (.int .i64 1))), xM 2 19 87]
@[simp] def b_BuildCommits_54 (_ : Unit) : EB := reg0 (hid l_BuildCommits_53) 3
@[simp] def b_BuildCommits_55 (_ : Unit) : EB := .seq (hid b_BuildCommits_52) (hid b_BuildCommits_54)
@[simp] def b_BuildCommits_56 (_ : Unit) : EB := .seq (hid b_BuildCommits_43) (hid b_BuildCommits_55)
@[simp] def b_BuildCommits_57 (_ : Unit) : EB := .loop (hid b_BuildCommits_56)
@[simp] def b_BuildCommits_58 (_ : Unit) : EB := .block 0 (hid b_BuildCommits_57)
@[simp] def b_BuildCommits_59 (_ : Unit) : EB := .seq (hid b_BuildCommits_39) (hid b_BuildCommits_58)
@[simp] def l_BuildCommits_61 (_ : Unit) : List EOp := [⟨6, (some 103), (some (102, true)), (.call 12 []), []⟩, xQ 7 104 (.pick (.t 102) (.t 103) (.k (.bool false))), xM 8 6 104]
@[simp] def l_BuildCommits_60 (_ : Unit) : List EOp := xQ 0 97 (.lda 3 (.t 11)) :: xM 1 98 12 :: xQ 2 99 (.lda 3 (.t 13)) :: xM 3 100 14 :: xO 4 101 (.call 22 [(.t 97), (.t 98), (.t 99), (.t 100)]) :: xM 5 102 101 :: hid l_BuildCommits_61
@[simp] def b_BuildCommits_62 (_ : Unit) : EB := reg0 (hid l_BuildCommits_60) 9
@[simp] def b_BuildCommits_63 (_ : Unit) : EB := .seq (hid b_BuildCommits_62) .ret
@[simp] def b_BuildCommits_64 (_ : Unit) : EB := .seq (hid b_BuildCommits_59) (hid b_BuildCommits_63)
@[simp] def b_BuildCommits_65 (_ : Unit) : EB := .seq (hid b_BuildCommits_37) (hid b_BuildCommits_64)
@[simp] def b_BuildCommits_66 (_ : Unit) : EB := .seq (hid b_BuildCommits_27) (hid b_BuildCommits_65)
@[simp] def b_BuildCommits_67 (_ : Unit) : EB := .seq (hid b_BuildCommits_24) (hid b_BuildCommits_66)
@[simp] def b_BuildCommits_68 (_ : Unit) : EB := .seq (hid b_BuildCommits_21) (hid b_BuildCommits_67)
@[simp] def b_BuildCommits_69 (_ : Unit) : EB := .seq (hid b_BuildCommits_18) (hid b_BuildCommits_68)
@[simp] def b_BuildCommits_70 (_ : Unit) : EB := .seq (hid b_BuildCommits_15) (hid b_BuildCommits_69)
@[simp] def b_BuildCommits_71 (_ : Unit) : EB := .seq (hid b_BuildCommits_12) (hid b_BuildCommits_70)
@[simp] def b_BuildCommits_72 (_ : Unit) : EB := .seq (hid b_BuildCommits_5) (hid b_BuildCommits_71)
@[simp] def b_BuildCommits_73 (_ : Unit) : EB := .seq (hid b_BuildCommits_2) (hid b_BuildCommits_72)
def c_BuildCommits : EB × List QOp × Nat := ((hid b_BuildCommits_73), [(.mov (.t 6))], 105)
theorem k_BuildCommits : cfun Tryz.prog 4 = some c_BuildCommits := by kernel_rfl
def owC (o : Int) (lock sec : List UInt8) : List EC := iC o :: (hc lock ++ [.fz (.sl 1 (bsv sec))])
def owF (o : Int) (lock sec : List UInt8) : List FV := iF o :: (hf lock ++ [.sl 1 (bsv sec)])
theorem owF_fz (o : Int) (lock sec : List UInt8) : (owF o lock sec).map EC.fz = owC o lock sec := by simp [owF, owC, iF, iC]
def OwV (o : Int) (lock sec : List UInt8) : EV := .v (.agg (owC o lock sec))
theorem take32s {l : List UInt8} (h : l.length = 32) (a : EC) : List.take 32 (hc l ++ [a]) = hc l := by
  have e : (hc l).length = 32 := by rw [hc_len, h]
  rw [← e, List.take_left]
theorem take33s {l : List UInt8} (h : l.length = 32) (a : EC) : List.take 33 (hc l ++ [a]) = hc l ++ [a] := List.take_of_length_le (by simp [h])
set_option maxRecDepth 8000 in
set_option maxHeartbeats 32000000 in
theorem BuildCommits_ok (p : Prm) (s : Sta) (o : Int) (lock sec : List UInt8) (hp : p.ok) (hs : s.ok) (ho : i64 o) (hl : lock.length = 32) : ECalls Tryz.prog 4 [PVv p, SV s, OwV o lock sec] [] fun y H' => H' = [] ∧ y = .lit (.bool true) := by
  have h1 := hp.1
  have lp := prmC_len h1
  have tp := pm_take h1
  have t32 := hc_t32 hl
  refine ecalls k_BuildCommits ?_
  simp [c_BuildCommits, OwV, owC, take32s hl, take33s hl, PVv, SV, staC, I, lp, tp, t32, hl, iC, -errV_0]
  refine call0 (longState_ok s hs) (by simp [SV, staC]) ?_
  rintro y H' ⟨rfl, rfl⟩
  refine ⟨.inl (by simp), le_ok rfl, ?_⟩
  cases hl1 : longS s
  rotate_left
  · simp [-errV_0]
    refine call0 sure_ok (by simp) ?_
    rintro y H' ⟨rfl, rfl⟩
    refine ⟨.inl (by simp), le_ok rfl, ?_⟩
    simp [-errV_0]
    exact fin [] (by decide) rfl rfl rfl ⟨rfl, rfl⟩
  have ms := (longS_small hl1).1
  simp [PVv, SV, staC, I, lp, tp, t32, hl, iC, -errV_0]
  refine call0 (giveP_ok p h1) (by simp [PVv]) ?_
  rintro y H' ⟨rfl, rfl⟩
  refine ⟨.inl (by simp [PVv]), le_ok rfl, ?_⟩
  simp [PVv, SV, staC, I, lp, tp, t32, hl, iC, -errV_0]
  refine call0 (giveState_ok s hs ms) (by simp [SV, staC]) ?_
  rintro y H' ⟨rfl, rfl⟩
  refine ⟨.inl (by simp [SV, staC]), le_ok rfl, ?_⟩
  simp [PVv, SV, staC, I, lp, tp, t32, hl, iC, -errV_0]
  have hD : List.drop 38 (prmC p) = [] := by rw [List.drop_eq_nil_iff]; omega
  have hcB := BCommit_ok p s o lock hp hs hl
  have hcR := RCommit_ok p s o lock hp hs hl
  obtain ⟨hco, hcs⟩ := cmtS_ok (p := p) (s := s) (o := o) (lock := lock) hp hs hl
  generalize cmtS p s o lock = q at hcB hcR hco hcs
  obtain ⟨t, ec⟩ := q
  dsimp only at hcB hcR hco hcs
  refine call0 hcB (by simp [PVv, SV, staC, I, iC]) ?_
  rintro y H' ⟨rfl, rfl⟩
  refine ⟨.inl (by simp [txC, iC]), le_ok rfl, ?_⟩
  simp [PVv, SV, staC, I, lp, tp, t32, hl, iC, txC, -errV_0]
  refine call0 hcR (by simp [PVv, SV, staC, I, iC]) ?_
  rintro y H' ⟨rfl, rfl⟩
  refine ⟨.inl (by simp [txC, iC]), le_ok rfl, ?_⟩
  simp [PVv, SV, staC, I, lp, tp, t32, hl, iC, txC, -errV_0]
  have hB := BPlaces_ok p s o hp hs
  have hR := RPlaces_ok p s o hp hs
  have hi := plcS_i64 (p := p) (s := s) (o := o) hs
  have hn := plcS_len (p := p) (s := s) (o := o)
  generalize plcS p s o = q at hB hR hi hn
  obtain ⟨L, e⟩ := q
  dsimp only at hB hR hi hn
  refine call0 hB (by simp [PVv, SV, staC, I]) ?_
  rintro y H' ⟨rfl, rfl⟩
  refine ⟨.inl (by simp), le_ok rfl, ?_⟩
  simp [PVv, SV, staC, I, lp, tp, -errV_0]
  refine call0 hR (by simp [PVv, SV, staC, I]) ?_
  rintro y H' ⟨rfl, rfl⟩
  refine ⟨.inl (by simp), le_ok rfl, ?_⟩
  simp [PVv, SV, staC, I, lp, tp, -errV_0]
  refine call0 (num_e e) (by simp) ?_
  rintro y H' ⟨rfl, rfl⟩
  refine ⟨.inl (by simp [I]), le_ok rfl, ?_⟩
  simp [PVv, SV, staC, I, lp, tp, -errV_0]
  have k1 := BCheck_ok p s hp hs
  have k2 := RBCheck_ok p s hp hs
  generalize bldE p s = kk at k1 k2
  refine call0 k1 (by simp [PVv, SV, staC, I]) ?_
  rintro y H' ⟨rfl, rfl⟩
  refine ⟨.inl (by simp [I]), le_ok rfl, ?_⟩
  simp [PVv, SV, staC, I, lp, tp, -errV_0]
  refine call0 (num_e kk) (by simp) ?_
  rintro y H' ⟨rfl, rfl⟩
  refine ⟨.inl (by simp [I]), le_ok rfl, ?_⟩
  simp [PVv, SV, staC, I, lp, tp, -errV_0]
  refine call0 k2 (by simp [PVv, SV, staC, I]) ?_
  rintro y H' ⟨rfl, rfl⟩
  refine ⟨.inl (by simp [I]), le_ok rfl, ?_⟩
  simp [I, -errV_0]
  refine eloop (α := Nat) (fun i => i ≤ L.length) (fun i => L.length - i)
    (fun i => [.any, .any, .any, .any, .any, .any, .any, .any, .any, .any, .any, Ptr 0, .lit (errV ec), Ptr 1, I .i64 ec, .v (.c (.fz (.sl 2 (plcv L)))), .any, .v (.c (.fz (.sl 2 (plcv L)))), .any, I .i64 i, .any, .any, .any, .any, .any, .any, .any, .any, .any, .any, .any, .any, .any, .any, .any, .any, .any, .any, .any, .any, .any, .any, .any, .any, .any, .any, .any, .any, .any, .any, .any, .any, .any, .any, .any, .any, .any, .any, .any, .any, .any, .any, .any, .any, .any, .any, .any, .any, .any, .any, .any, .any, .any, .any, .any, .any, .any, .any, .any, .any, .any, .any, .any, .any, .any, .any, .any, .any, .any, .any, .any, .any, .any, .any, .any, .any, .any, .any, .any, .any, .any, .any, .any, .any, .any]) (fun i => [some (.box 63 (txC t)), some (.box 69 (txC t))]) 0 [464, 640]
    (Nat.zero_le _) (by simp [I, Ptr]) (by simp [txC, iC]) (by simp) (by simp) (by simp) ?_
  intro i hil
  simp [I, Ptr, txC, iC, -errV_0]
  refine alt (fun hlt => ?_) (fun hlt => ?_)
  · obtain ⟨x, hc⟩ : ∃ x, L[i]? = some x := ⟨L[i], by simp [hlt]⟩
    have hge : (plcv L)[i]'(by simpa using hlt) = plcF x := by
      have e := plcv_get hc
      rw [List.getElem?_eq_getElem (by simpa using hlt)] at e
      exact Option.some.inj e
    obtain ⟨x1, x2⟩ := hi x (List.mem_of_getElem? hc)
    have w1 : IntKind.i64.wrap ((i : Int) + 1) = ((i + 1 : Nat) : Int) := wrap_i64 (by omega) (by omega)
    have lk : litK (unrle [(2, .i64)]) [EC.fz (FV.lit (.int .i64 x.1)), EC.fz (FV.lit (.int .i64 x.2))] = some [x.1, x.2] := by
      simp [litK, unrle, wf_i64 x1, wf_i64 x2]
    simp [hlt, hge, plcF, iF, lk, w1, -Int.natCast_add, -errV_0]
    exact round (i + 1) [0, 1] (by omega) (by omega) (by simp [I, Ptr]) (by simp [txC, iC]) (by simp) (by simp) (by simp)
  simp [-errV_0]
  refine call0 (same_ok t ec hco hcs) (by simp [TXv, txC, iC, I]) ?_
  rintro y H' ⟨rfl, rfl⟩
  refine ⟨.inl (by simp), le_ok rfl, ?_⟩
  simp [-errV_0]
  refine call0 sure_ok (by simp) ?_
  rintro y H' ⟨rfl, rfl⟩
  refine ⟨.inl (by simp), le_ok rfl, ?_⟩
  simp [-errV_0]
  exact fin [] (by decide) rfl rfl rfl ⟨rfl, rfl⟩
end Go.Proofs.YtflcfdeanneoeaaGreatDoor
namespace Go.Proofs.YtflcfdeanneoeaaGreatDoor
open Go Go.EW
set_option linter.unusedSimpArgs false
set_option linter.unusedVariables false
theorem opn_owner : Opn BB Tryz.prog 59 (fun q : Int × List UInt8 × List UInt8 => owF q.1 q.2.1 q.2.2) (fun q => i64 q.1 ∧ q.2.1.length = 32) (fun q => 1 + q.2.2.length) :=
  (opn_struct (tot := 34) bok Tryz.underlying59 (by kernel_rfl)
    (opnFs_cons bok (n := 1) (tot := 33) opn_i64 rfl (by kernel_rfl) (opnFs_cons bok (n := 32) (tot := 1) opn_hash rfl (by kernel_rfl) (opnFs_cons bok (n := 1) (tot := 0) opn_bytes rfl (by kernel_rfl) opnFs_nil)))).map
    (fun q => (q.1, q.2.1, q.2.2.1)) (by rintro ⟨a, b, c, u⟩ _; simp [owF, iF]) (by rintro ⟨a, b, c, u⟩ h; exact ⟨h.1, h.2.1⟩) (by rintro ⟨a, b, c, u⟩ _; simp; try omega)
def zOwV : Value := .agg (#[.int .i64 0] ++ Array.replicate 32 (.int .u8 0) ++ #[.slice none 0 0])
def zOwD {H : Type} : DataW H := .agg [.lit (.int .i64 0), .agg (List.replicate 32 (.lit (.int .u8 0))), .nil]
end Go.Proofs.YtflcfdeanneoeaaGreatDoor
