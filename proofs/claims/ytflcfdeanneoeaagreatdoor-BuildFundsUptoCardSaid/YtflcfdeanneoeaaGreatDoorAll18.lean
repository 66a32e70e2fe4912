import Derived.Test.YtflcfdeanneoeaaGreatDoorAll17
import Derived.Test.YtflcfdeanneoeaaGreatDoorAll10
import Derived.Test.YtflcfdeanneoeaaGreatDoorAll13
import Derived.Test.YtflcfdeanneoeaaGreatDoorAll8
import Derived.Test.YtflcfdeanneoeaaGreatDoorAll5
import Derived.Test.YtflcfdeanneoeaaGreatDoorAll7
import Derived.Test.YtflcfdeanneoeaaGreatDoorAll9
namespace Go.Proofs.YtflcfdeanneoeaaGreatDoor
open Go Go.EW
set_option linter.unusedSimpArgs false
set_option linter.unusedVariables false
@[simp] def l_TPut_1 (_ : Unit) : List EOp := [xQ 0 2 (.box 63 (.t 0)), xQ 1 4 (.mov (.k (.slice none 0 0)))]
@[simp] def b_TPut_2 (_ : Unit) : EB := reg0 (hid l_TPut_1) 2
@[simp] def l_TPut_4 (_ : Unit) : List EOp := [xQ 8 19 (.cnv .u64 (.t 18)), ⟨0, (some 11), none, (.call 126 []), [1, 2, 3, 5, 6, 7, 8]⟩, ⟨4, (some 15), none, (.call 127 [(.t 11), (.t 14)]), [5, 6, 7, 8]⟩, xO 9 20 (.call 127 [(.t 15), (.t 19)]), xM 10 5 20]
@[simp] def l_TPut_3 (_ : Unit) : List EOp := xQ 1 12 (.fad 0 (.t 2)) :: xQ 2 13 (.ldc (.t 12)) :: xQ 3 14 (.cnv .u64 (.t 13)) :: xQ 5 16 (.fad 1 (.t 2)) :: xQ 6 17 (.ldc (.t 16)) :: xQ 7 18 (.len (.t 17)) :: hid l_TPut_4
@[simp] def b_TPut_5 (_ : Unit) : EB := reg1 (hid l_TPut_3) 11
@[simp] def l_TPut_6 (_ : Unit) : List EOp := [xQ 0 21 (.fad 1 (.t 2)), xQ 1 22 (.ldc (.t 21)), xQ 2 23 (.len (.t 22)), xQ 3 24 (.mov (.k (.int .i64 0)))]
@[simp] def b_TPut_7 (_ : Unit) : EB := reg0 (hid l_TPut_6) 4
@[simp] def l_TPut_8 (_ : Unit) : List EOp := [xQ 0 25 (.bin .lss (.t 24) (.t 23))]
@[simp] def b_TPut_9 (_ : Unit) : EB := reg0 (hid l_TPut_8) 1
@[simp] def b_TPut_10 (_ : Unit) : EB := .cond (.t 25) .skip (.exit 0)
@[simp] def l_TPut_11 (_ : Unit) : List EOp := [xQ 0 26 (.isl 35 (.t 22) (.t 24)), xQ 1 27 (.lda 35 (.t 26)), xQ 2 7 (.alloc 135 (zU8 ++ [(.int .i64 0), (.int .i64 0), (.slice none 0 0)])), xN 3 (.fz (.sto 35 (.t 7) (.t 27)))]
@[simp] def b_TPut_12 (_ : Unit) : EB := reg0 (hid l_TPut_11) 4
@[simp] def l_TPut_15 (_ : Unit) : List EOp := [xQ 15 43 (.lda 35 (.t 7)), ⟨4, (some 32), none, (.call 128 [(.t 28), (.t 31)]), [5, 6, 7, 8, 10, 11, 12, 14, 15]⟩, ⟨9, (some 37), none, (.call 127 [(.t 32), (.t 36)]), [10, 11, 12, 14, 15]⟩, ⟨13, (some 41), none, (.call 127 [(.t 37), (.t 40)]), [14, 15]⟩, xO 16 44 (.clo (.t 42) [(.t 43)]), xO 17 45 (.call 129 [(.t 41), (.t 44)])]
@[simp] def l_TPut_14 (_ : Unit) : List EOp := xQ 7 35 (.ldc (.t 34)) :: xQ 8 36 (.cnv .u64 (.t 35)) :: xQ 10 38 (.fad 33 (.t 7)) :: xQ 11 39 (.ldc (.t 38)) :: xQ 12 40 (.cnv .u64 (.t 39)) :: xM 14 42 1 :: hid l_TPut_15
@[simp] def l_TPut_13 (_ : Unit) : List EOp := xM 0 28 5 :: xQ 1 29 (.fad 0 (.t 7)) :: xQ 2 30 (.fad 0 (.t 29)) :: xQ 3 31 (.lda 32 (.t 30)) :: xQ 5 33 (.fad 0 (.t 7)) :: xQ 6 34 (.fad 32 (.t 33)) :: hid l_TPut_14
@[simp] def b_TPut_16 (_ : Unit) : EB := reg1 (hid l_TPut_13) 18
@[simp] def b_TPut_17 (_ : Unit) : EB := .seq (hid b_TPut_12) (hid b_TPut_16)
@[simp] def b_TPut_18 (_ : Unit) : EB := .block 1 (hid b_TPut_17)
@[simp] def l_TPut_19 (_ : Unit) : List EOp := [xQ 0 46 (.bin .add (.t 24) (.k (.int .i64 1))), xM 1 24 46]
@[simp] def b_TPut_20 (_ : Unit) : EB := reg0 (hid l_TPut_19) 2
@[simp] def b_TPut_21 (_ : Unit) : EB := .seq (hid b_TPut_18) (hid b_TPut_20)
@[simp] def b_TPut_22 (_ : Unit) : EB := .seq (hid b_TPut_10) (hid b_TPut_21)
@[simp] def b_TPut_23 (_ : Unit) : EB := .seq (hid b_TPut_9) (hid b_TPut_22)
@[simp] def b_TPut_24 (_ : Unit) : EB := .loop (hid b_TPut_23)
@[simp] def b_TPut_25 (_ : Unit) : EB := .block 0 (hid b_TPut_24)
@[simp] def b_TPut_26 (_ : Unit) : EB := .seq (hid b_TPut_7) (hid b_TPut_25)
@[simp] def l_TPut_28 (_ : Unit) : List EOp := [xO 6 53 (.call 130 [(.t 52)]), xM 7 8 53]
@[simp] def l_TPut_27 (_ : Unit) : List EOp := xM 0 47 5 :: xQ 1 48 (.fad 2 (.t 2)) :: xQ 2 49 (.ldc (.t 48)) :: xQ 3 50 (.len (.t 49)) :: xQ 4 51 (.cnv .u64 (.t 50)) :: xO 5 52 (.call 127 [(.t 47), (.t 51)]) :: hid l_TPut_28
@[simp] def b_TPut_29 (_ : Unit) : EB := reg0 (hid l_TPut_27) 8
@[simp] def l_TPut_30 (_ : Unit) : List EOp := [xQ 0 54 (.fad 2 (.t 2)), xQ 1 55 (.ldc (.t 54)), xQ 2 56 (.len (.t 55)), xQ 3 57 (.mov (.k (.int .i64 0)))]
@[simp] def b_TPut_31 (_ : Unit) : EB := reg0 (hid l_TPut_30) 4
@[simp] def l_TPut_32 (_ : Unit) : List EOp := [xQ 0 58 (.bin .lss (.t 57) (.t 56))]
@[simp] def b_TPut_33 (_ : Unit) : EB := reg0 (hid l_TPut_32) 1
@[simp] def b_TPut_34 (_ : Unit) : EB := .cond (.t 58) .skip (.exit 2)
@[simp] def l_TPut_35 (_ : Unit) : List EOp := [xQ 0 59 (.isl 2 (.t 55) (.t 57)), xQ 1 60 (.lda 2 (.t 59)), xQ 2 10 (.alloc 118 [(.int .i64 0), (.slice none 0 0)]), xN 3 (.fz (.sto 2 (.t 10) (.t 60)))]
@[simp] def b_TPut_36 (_ : Unit) : EB := reg0 (hid l_TPut_35) 4
@[simp] def l_TPut_38 (_ : Unit) : List EOp := [⟨1, (some 62), none, (.call 126 []), [0, 2, 3, 4, 8, 9]⟩, ⟨5, (some 66), none, (.call 127 [(.t 62), (.t 65)]), [0, 8, 9]⟩, ⟨6, (some 67), none, (.call 130 [(.t 66)]), [0, 8, 9]⟩, ⟨7, (some 68), none, (.app 5 1 1 (.t 61) (.t 67)), [8, 9]⟩, xO 10 71 (.call 131 [(.t 68), (.t 70)]), xM 11 8 71]
@[simp] def l_TPut_37 (_ : Unit) : List EOp := xM 0 61 8 :: xQ 2 63 (.fad 0 (.t 10)) :: xQ 3 64 (.ldc (.t 63)) :: xQ 4 65 (.cnv .u64 (.t 64)) :: xQ 8 69 (.fad 1 (.t 10)) :: xQ 9 70 (.lda 1 (.t 69)) :: hid l_TPut_38
@[simp] def b_TPut_39 (_ : Unit) : EB := reg1 (hid l_TPut_37) 12
@[simp] def b_TPut_40 (_ : Unit) : EB := .seq (hid b_TPut_36) (hid b_TPut_39)
@[simp] def b_TPut_41 (_ : Unit) : EB := .block 3 (hid b_TPut_40)
@[simp] def l_TPut_42 (_ : Unit) : List EOp := [xQ 0 72 (.bin .add (.t 57) (.k (.int .i64 1))), xM 1 57 72]
@[simp] def b_TPut_43 (_ : Unit) : EB := reg0 (hid l_TPut_42) 2
@[simp] def b_TPut_44 (_ : Unit) : EB := .seq (hid b_TPut_41) (hid b_TPut_43)
@[simp] def b_TPut_45 (_ : Unit) : EB := .seq (hid b_TPut_34) (hid b_TPut_44)
@[simp] def b_TPut_46 (_ : Unit) : EB := .seq (hid b_TPut_33) (hid b_TPut_45)
@[simp] def b_TPut_47 (_ : Unit) : EB := .loop (hid b_TPut_46)
@[simp] def b_TPut_48 (_ : Unit) : EB := .block 2 (hid b_TPut_47)
@[simp] def b_TPut_49 (_ : Unit) : EB := .seq (hid b_TPut_31) (hid b_TPut_48)
@[simp] def l_TPut_50 (_ : Unit) : List EOp := [xM 0 73 8, xM 1 4 73]
@[simp] def b_TPut_51 (_ : Unit) : EB := reg0 (hid l_TPut_50) 2
@[simp] def b_TPut_52 (_ : Unit) : EB := .seq (hid b_TPut_51) .ret
@[simp] def b_TPut_53 (_ : Unit) : EB := .seq (hid b_TPut_49) (hid b_TPut_52)
@[simp] def b_TPut_54 (_ : Unit) : EB := .seq (hid b_TPut_29) (hid b_TPut_53)
@[simp] def b_TPut_55 (_ : Unit) : EB := .seq (hid b_TPut_26) (hid b_TPut_54)
@[simp] def b_TPut_56 (_ : Unit) : EB := .seq (hid b_TPut_5) (hid b_TPut_55)
@[simp] def b_TPut_57 (_ : Unit) : EB := .seq (hid b_TPut_2) (hid b_TPut_56)
def c_TPut : EB × List QOp × Nat := ((hid b_TPut_57), [(.mov (.t 4))], 74)
theorem k_TPut : cfun Tryz.prog 76 = some c_TPut := by kernel_rfl
@[simp] def l_TEncode_1 (_ : Unit) : List EOp := [xQ 0 1 (.box 63 (.t 0)), xQ 1 2 (.mov (.k (.slice none 0 0)))]
@[simp] def b_TEncode_2 (_ : Unit) : EB := reg0 (hid l_TEncode_1) 2
@[simp] def l_TEncode_3 (_ : Unit) : List EOp := [xQ 0 3 (.lda 3 (.t 1)), xO 1 4 (.call 76 [(.t 3), (.k (.func (.func 98) #[] #[]))]), xM 2 2 4]
@[simp] def b_TEncode_4 (_ : Unit) : EB := reg0 (hid l_TEncode_3) 3
@[simp] def b_TEncode_5 (_ : Unit) : EB := .seq (hid b_TEncode_4) .ret
@[simp] def b_TEncode_6 (_ : Unit) : EB := .seq (hid b_TEncode_2) (hid b_TEncode_5)
def c_TEncode : EB × List QOp × Nat := ((hid b_TEncode_6), [(.mov (.t 2))], 5)
theorem k_TEncode : cfun Tryz.prog 54 = some c_TEncode := by kernel_rfl
@[simp] def l_InShown_1 (_ : Unit) : List EOp := [xQ 0 1 (.box 135 (.t 0)), xQ 1 2 (.mov (.k (.slice none 0 0)))]
@[simp] def b_InShown_2 (_ : Unit) : EB := reg0 (hid l_InShown_1) 2
@[simp] def l_InShown_3 (_ : Unit) : List EOp := [xQ 0 3 (.fad 34 (.t 1)), xQ 1 4 (.ldc (.t 3)), xM 2 2 4]
@[simp] def b_InShown_4 (_ : Unit) : EB := reg0 (hid l_InShown_3) 3
@[simp] def b_InShown_5 (_ : Unit) : EB := .seq (hid b_InShown_4) .ret
@[simp] def b_InShown_6 (_ : Unit) : EB := .seq (hid b_InShown_2) (hid b_InShown_5)
def c_InShown : EB × List QOp × Nat := ((hid b_InShown_6), [(.mov (.t 2))], 5)
theorem k_InShown : cfun Tryz.prog 98 = some c_InShown := by kernel_rfl
def inpB (x : Inp) : List UInt8 := x.tx ++ (uB x.n ++ (uB x.br ++ bytesB x.sec))
def oupB (o : Outp) : List UInt8 := uB o.am ++ cndB o.cs
def insB (l : List Inp) : List UInt8 := l.flatMap inpB
def ousB (l : List Outp) : List UInt8 := l.flatMap oupB
def hdB (t : Txn) : List UInt8 := uB t.lk ++ uB (t.ins.length : Int)
def mdB (t : Txn) : List UInt8 := hdB t ++ insB t.ins ++ uB (t.outs.length : Int)
def encT (t : Txn) : List UInt8 := mdB t ++ ousB t.outs
theorem insB_snoc (l : List Inp) (x : Inp) : insB (l ++ [x]) = insB l ++ inpB x := by simp [insB]
theorem ousB_snoc (l : List Outp) (x : Outp) : ousB (l ++ [x]) = ousB l ++ oupB x := by simp [ousB]
def INL (l : List Inp) : EV := .v (.c (.fz (.sl 35 (inpv l))))
def OUL (l : List Outp) : EV := .v (.c (.fz (.sl 2 (outv l))))
theorem InShown_body : bodyOK Tryz.prog 98 = true := by kernel_rfl
set_option maxHeartbeats 2000000 in
theorem InShown_ok (x : Inp) (h : x.ok) : ECalls Tryz.prog 98 [.v (.agg (inpC x))] [] fun y H' => H' = [] ∧ y = Bs x.sec := by
  obtain ⟨h1, _, _, h4⟩ := h
  have l0 := ic_len h1
  have e34 := idx_of (ic_34 h1) (by omega)
  refine ecalls k_InShown ?_
  simp [c_InShown, l0, e34]
  exact fin [] (by decide) rfl rfl rfl ⟨rfl, rfl⟩
theorem drop35h (a b c : EC) : List.drop 35 (hc hz ++ [a, b, c]) = [] := by rw [List.drop_eq_nil_iff]; simp [hz]
set_option maxHeartbeats 16000000 in
theorem TPutF_ok (f : FuncId) (t : Txn) (ht : t.ok) (hbf : bodyOK Tryz.prog f = true) (hff : ∀ x ∈ t.ins, ECalls Tryz.prog f [.v (.agg (inpC x))] [] fun y H' => H' = [] ∧ y = Bs x.sec) (hsec : ∀ x ∈ t.ins, x.sec.length ≤ 10000000) (hs : (encT t).length ≤ 400000000) : ECalls Tryz.prog 76 [TXv t, .v (.c (.clo f []))] [] fun y H' => H' = [] ∧ y = Bs (encT t) := by
  obtain ⟨t1, t2, t3, t4, t5⟩ := id ht
  have hlen : (encT t).length = (uB t.lk).length + (uB (t.ins.length : Int)).length + (insB t.ins).length + (uB (t.outs.length : Int)).length + (ousB t.outs).length := by simp [encT, mdB, hdB]; try omega
  refine ecalls k_TPut ?_
  simp [c_TPut, TXv, txC, iC]
  refine call0 New_ok rfl ?_
  rintro y H' ⟨rfl, rfl⟩
  refine ⟨.inl rfl, le_ok rfl, ?_⟩
  simp [Ptr, WO, RO, wrap_u64n]
  refine callH [32, 33] (WUint_ok [] (u64n t.lk) (u64n_lt _) (by simp)) (by simp [Ptr, I]) (by simp [WO, RO]) (by simp) (by simp) (by simp) ?_
  rintro y H' ⟨rfl, rfl⟩
  refine ⟨.inl (by simp), le_ok rfl, ?_⟩
  simp only [uB_eq, List.nil_append]
  simp [WO, RO, Ptr, wrap_u64n]
  refine callH [32, 96] (WUint_ok (uB t.lk) (u64n (t.ins.length : Int)) (u64n_lt _) (by omega)) (by simp [Ptr, I]) (by simp [WO, RO]) (by simp) (by simp) (by simp) ?_
  rintro y H' ⟨rfl, rfl⟩
  refine ⟨.inl (by simp), le_ok rfl, ?_⟩
  obtain ⟨F, hF⟩ : ∃ F : Nat → List UInt8, F = fun i => hdB t ++ insB (t.ins.take i) := ⟨_, rfl⟩
  have hF0 : uB t.lk ++ uB (t.ins.length : Int) = F 0 := by rw [hF]; simp [insB, hdB]
  have hFl : ∀ i, (F i).length ≤ 400000000 := by
    intro i
    have hfl := flat_take inpB t.ins i
    rw [hF]; simp only [List.length_append, hdB]; unfold insB at *; omega
  simp only [uB_eq, hF0]
  simp [WO, RO, Ptr]
  refine eloop (α := Nat) (fun i => i ≤ t.ins.length) (fun i => t.ins.length - i)
    (fun i => [.any, .v (.c (.clo f [])), Ptr 0, .any, .any, Ptr 1, .any, .any, .any, .any, .any, .any, .any, .any, .any, .any, .any, .any, .any, .any, .any, .any, INL t.ins, I .i64 t.ins.length, I .i64 i, .any, .any, .any, .any, .any, .any, .any, .any, .any, .any, .any, .any, .any, .any, .any, .any, .any, .any, .any, .any, .any, .any, .any, .any, .any, .any, .any, .any, .any, .any, .any, .any, .any, .any, .any, .any, .any, .any, .any, .any, .any, .any, .any, .any, .any, .any, .any, .any, .any]) (fun i => [some (.box 63 (txC t)), some (WO 2 (F i)), some (RO (F i))]) 0 [0, 32, 176]
    (Nat.zero_le _) (by simp [Ptr, I, INL]) (by simp [WO, RO, txC, iC]) (by simp) (by simp) (by simp) ?_
  intro i hi
  have hX := hFl i
  simp [Ptr, I, INL, WO, RO, txC, iC]
  refine alt (fun hlt => ?_) (fun hlt => ?_)
  · have hln : i < t.ins.length := by omega
    obtain ⟨x, hcx⟩ : ∃ x, t.ins[i]? = some x := ⟨t.ins[i], by simp [hln]⟩
    have hge : (inpv t.ins)[i]'(by simpa using hln) = inpF x := by
      have e := inpv_get hcx
      rw [List.getElem?_eq_getElem (by simpa using hln)] at e
      exact Option.some.inj e
    have hx := t2 x (List.mem_of_getElem? hcx)
    obtain ⟨x1, x2, x3, x4⟩ := id hx
    have x5 := hsec x (List.mem_of_getElem? hcx)
    have l0 := ic_len x1
    have f0 := if_len x1
    have tk := ic_take x1
    have th := ic_hash x1
    have e32 := idx_of (ic_32 x1) (by omega)
    have e33 := idx_of (ic_33 x1) (by omega)
    have w1 : IntKind.i64.wrap ((i : Int) + 1) = ((i + 1 : Nat) : Int) := wrap_i64 (by omega) (by omega)
    have hfs := flat_take_s inpB hcx
    have hbl : (inpB x).length = 32 + ((uB x.n).length + ((uB x.br).length + (bytesB x.sec).length)) := by simp [inpB, x1]
    have hXb : (F i).length + (inpB x).length ≤ 400000000 := by
      rw [hF]; simp only [List.length_append, hdB]; unfold insB at *; omega
    have hFs : F (i + 1) = F i ++ inpB x := by rw [hF]; simp [take_s hcx, insB_snoc]
    simp [hln, hge, inpF_fz, l0, f0, tk, th, e32, e33, wrap_u64n, drop35h, iC, WO, RO, Ptr]
    refine callH [1, 2] (WHash_ok (F i) x.tx (by omega) x1) (by simp [Ptr, Ag]) (by simp [WO, RO]) (by simp) (by simp) (by simp) ?_
    rintro y H' ⟨rfl, rfl⟩
    refine ⟨.inl (by simp), le_ok rfl, ?_⟩
    simp [hln, hge, inpF_fz, l0, f0, tk, th, e32, e33, wrap_u64n, drop35h, iC, WO, RO, Ptr]
    refine callH [1, 147] (WUint_ok (F i ++ x.tx) (u64n x.n) (u64n_lt _) (by simp; omega)) (by simp [Ptr, I]) (by simp [WO, RO]) (by simp) (by simp) (by simp) ?_
    rintro y H' ⟨rfl, rfl⟩
    refine ⟨.inl (by simp), le_ok rfl, ?_⟩
    simp only [uB_eq]
    simp [hln, hge, inpF_fz, l0, f0, tk, th, e32, e33, wrap_u64n, drop35h, iC, WO, RO, Ptr]
    refine callH [1, 227] (WUint_ok (F i ++ x.tx ++ uB x.n) (u64n x.br) (u64n_lt _) (by simp; omega)) (by simp [Ptr, I]) (by simp [WO, RO]) (by simp) (by simp) (by simp) ?_
    rintro y H' ⟨rfl, rfl⟩
    refine ⟨.inl (by simp), le_ok rfl, ?_⟩
    simp only [uB_eq]
    simp [hln, hge, inpF_fz, l0, f0, tk, th, e32, e33, wrap_u64n, drop35h, iC, WO, RO, Ptr]
    refine ⟨hbf, ?_⟩
    refine call0 (hff x (List.mem_of_getElem? hcx)) (by simp [hln, hge, inpF_fz, l0, f0, tk, th, e32, e33, wrap_u64n, drop35h, iC, WO, RO, Ptr]) ?_
    rintro y H' ⟨rfl, rfl⟩
    refine ⟨.inl (by simp [Bs]), le_ok rfl, ?_⟩
    simp [hln, hge, inpF_fz, l0, f0, tk, th, e32, e33, wrap_u64n, drop35h, iC, WO, RO, Ptr, Bs]
    refine callH [1, 291] (WBytes_ok (F i ++ x.tx ++ uB x.n ++ uB x.br) x.sec (by simp; omega) (by omega)) (by simp [Ptr, Bs]) (by simp [WO, RO]) (by simp) (by simp) (by simp) ?_
    rintro y H' ⟨rfl, rfl⟩
    refine ⟨.inl (by simp), le_ok rfl, ?_⟩
    have hGe : F i ++ x.tx ++ uB x.n ++ uB x.br ++ bytesB x.sec = F (i + 1) := by rw [hFs]; simp [inpB]
    simp only [hGe]
    simp [WO, RO, Ptr, w1, -Int.natCast_add]
    exact round (i + 1) [0, 1, 355] (by omega) (by omega) (by simp [Ptr, I, INL]) (by simp [WO, RO, txC, iC]) (by simp) (by simp) (by simp)
  have hil : i = t.ins.length := by omega
  subst hil
  have hFe : F t.ins.length = hdB t ++ insB t.ins := by rw [hF]; simp
  simp [wrap_u64n]
  refine callH [1, 2] (WUint_ok (F t.ins.length) (u64n (t.outs.length : Int)) (u64n_lt _) (by omega)) (by simp [Ptr, I]) (by simp [WO, RO]) (by simp) (by simp) (by simp) ?_
  rintro y H' ⟨rfl, rfl⟩
  refine ⟨.inl (by simp), le_ok rfl, ?_⟩
  obtain ⟨K, hK⟩ : ∃ K : Nat → List UInt8, K = fun i => mdB t ++ ousB (t.outs.take i) := ⟨_, rfl⟩
  have hK0 : F t.ins.length ++ uB (t.outs.length : Int) = K 0 := by rw [hK, hFe]; simp [ousB, mdB]
  have hKl : ∀ i, (K i).length ≤ 400000000 := by
    intro i
    have hfl := flat_take oupB t.outs i
    rw [hK]; simp only [List.length_append, hdB, mdB]; unfold ousB at *; omega
  simp only [uB_eq, hK0]
  simp [WO, RO, Ptr]
  have hK00 := hKl 0
  refine callH [1, 99] (WDone_ok (K 0) (by omega)) (by simp [Ptr]) (by simp [WO, RO]) (by simp) (by simp) (by simp) ?_
  rintro y H' ⟨rfl, rfl⟩
  refine ⟨.inl (by simp), le_ok rfl, ?_⟩
  simp [WO, RO, Ptr, R]
  refine eloop (α := Nat) (fun i => i ≤ t.outs.length) (fun i => t.outs.length - i)
    (fun i => [.any, .any, .any, .any, .any, .any, .any, .any, R 0 (K i), .any, .any, .any, .any, .any, .any, .any, .any, .any, .any, .any, .any, .any, .any, .any, .any, .any, .any, .any, .any, .any, .any, .any, .any, .any, .any, .any, .any, .any, .any, .any, .any, .any, .any, .any, .any, .any, .any, .any, .any, .any, .any, .any, .any, .any, .any, OUL t.outs, I .i64 t.outs.length, I .i64 i, .any, .any, .any, .any, .any, .any, .any, .any, .any, .any, .any, .any, .any, .any, .any, .any]) (fun i => [some (RO (K i))]) 0 [115]
    (Nat.zero_le _) (by simp [R, I, OUL]) (by simp [RO]) (by simp) (by simp) (by simp) ?_
  intro i hi
  have hX := hKl i
  simp [R, I, OUL, RO]
  refine alt (fun hlt => ?_) (fun hlt => ?_)
  · have hln : i < t.outs.length := by omega
    obtain ⟨x, hcx⟩ : ∃ x, t.outs[i]? = some x := ⟨t.outs[i], by simp [hln]⟩
    have hge : (outv t.outs)[i]'(by simpa using hln) = outF x := by
      have e := outv_get hcx
      rw [List.getElem?_eq_getElem (by simpa using hln)] at e
      exact Option.some.inj e
    obtain ⟨x1, x2, x3⟩ := t3 x (List.mem_of_getElem? hcx)
    have w1 : IntKind.i64.wrap ((i : Int) + 1) = ((i + 1 : Nat) : Int) := wrap_i64 (by omega) (by omega)
    have hfs := flat_take_s oupB hcx
    have hbl : (oupB x).length = (uB x.am).length + (cndB x.cs).length := by simp [oupB]
    have hXb : (K i).length + (oupB x).length ≤ 400000000 := by
      rw [hK]; simp only [List.length_append, hdB, mdB]; unfold ousB at *; omega
    have hKs : K (i + 1) = K i ++ oupB x := by rw [hK]; simp [take_s hcx, ousB_snoc]
    simp [hln, hge, outF, iF]
    refine call0 New_ok rfl ?_
    rintro y H' ⟨rfl, rfl⟩
    refine ⟨.inl rfl, le_ok rfl, ?_⟩
    simp [Ptr, WO, RO, wrap_u64n]
    refine callH [97, 98] (WUint_ok [] (u64n x.am) (u64n_lt _) (by simp)) (by simp [Ptr, I]) (by simp [WO, RO]) (by simp) (by simp) (by simp) ?_
    rintro y H' ⟨rfl, rfl⟩
    refine ⟨.inl (by simp), le_ok rfl, ?_⟩
    simp only [uB_eq, List.nil_append]
    simp [Ptr, WO, RO, wrap_u64n]
    have hua := uB_len x.am
    refine callH [97, 161] (WDone_ok (uB x.am) (by omega)) (by simp [Ptr]) (by simp [WO, RO]) (by simp) (by simp) (by simp) ?_
    rintro y H' ⟨rfl, rfl⟩
    refine ⟨.inl (by simp), le_ok rfl, ?_⟩
    simp [WO, RO, Ptr, R, bsv_app]
    refine ⟨⟨by omega, by omega⟩, ?_⟩
    refine call0 (CPut_ok (K i ++ uB x.am) x.cs x2 x3 (by simp; omega)) (by simp [CNv, Bs, List.take_of_length_le]) ?_
    rintro y H' ⟨rfl, rfl⟩
    refine ⟨.inr ⟨rfl, by simp [RO, bsv, cb]⟩, le_ok rfl, ?_⟩
    have hGe : K i ++ uB x.am ++ cndB x.cs = K (i + 1) := by rw [hKs]; simp [oupB]
    simp only [hGe]
    simp [R, RO, w1, -Int.natCast_add]
    exact round (i + 1) [241] (by omega) (by omega) (by simp [R, I, OUL]) (by simp [RO]) (by simp) (by simp) (by simp)
  have hil : i = t.outs.length := by omega
  subst hil
  have hKe : K t.outs.length = encT t := by rw [hK]; simp [encT]
  simp
  refine finW _ (weak_frz (o := 0) (ty := 5) (es := 1) (xs := bsv (K t.outs.length)) rfl) ?_
  exact fin [] (by decide) rfl rfl rfl ⟨rfl, by simp [Bs, hKe, List.take_of_length_le]⟩
theorem TPut_ok (t : Txn) (ht : t.ok) (hsec : ∀ x ∈ t.ins, x.sec.length ≤ 10000000) (hs : (encT t).length ≤ 400000000) : ECalls Tryz.prog 76 [TXv t, .v (.c (.clo 98 []))] [] fun y H' => H' = [] ∧ y = Bs (encT t) :=
  TPutF_ok _ t ht InShown_body (fun x hx => InShown_ok x (ht.2.1 x hx)) hsec hs
set_option maxHeartbeats 4000000 in
theorem TEncode_ok (t : Txn) (ht : t.ok) (hsec : ∀ x ∈ t.ins, x.sec.length ≤ 10000000) (hs : (encT t).length ≤ 400000000) : ECalls Tryz.prog 54 [TXv t] [] fun y H' => H' = [] ∧ y = Bs (encT t) := by
  refine ecalls k_TEncode ?_
  simp [c_TEncode, TXv, txC, iC]
  refine call0 (TPut_ok t ht hsec hs) (by simp [TXv, txC, iC]) ?_
  rintro y H' ⟨rfl, rfl⟩
  refine ⟨.inl (by simp [Bs]), le_ok rfl, ?_⟩
  simp [Bs]
  exact fin [] (by decide) rfl rfl rfl ⟨rfl, rfl⟩
end Go.Proofs.YtflcfdeanneoeaaGreatDoor
namespace Go.Proofs.YtflcfdeanneoeaaGreatDoor
open Go Go.EW
set_option linter.unusedSimpArgs false
set_option linter.unusedVariables false
@[simp] def l_RCPut_1 (_ : Unit) : List EOp := [xQ 0 3 (.box 145 (.t 1)), xQ 1 4 (.mov (.k (.slice none 0 0)))]
@[simp] def b_RCPut_2 (_ : Unit) : EB := reg0 (hid l_RCPut_1) 2
@[simp] def l_RCPut_3 (_ : Unit) : List EOp := [xQ 0 5 (.mov (.k (.slice none 0 0)))]
@[simp] def b_RCPut_4 (_ : Unit) : EB := reg0 (hid l_RCPut_3) 1
@[simp] def l_RCPut_6 (_ : Unit) : List EOp := [⟨2, (some 11), none, (.app 5 1 1 (.t 9) (.t 10)), [3, 4, 5, 6]⟩, xO 7 16 (.call 147 [(.t 11), (.t 15)]), xM 8 5 16]
@[simp] def l_RCPut_5 (_ : Unit) : List EOp := xM 0 9 5 :: xM 1 10 0 :: xQ 3 12 (.fad 0 (.t 3)) :: xQ 4 13 (.ldc (.t 12)) :: xQ 5 14 (.len (.t 13)) :: xQ 6 15 (.cnv .u64 (.t 14)) :: hid l_RCPut_6
@[simp] def b_RCPut_7 (_ : Unit) : EB := reg1 (hid l_RCPut_5) 9
@[simp] def l_RCPut_8 (_ : Unit) : List EOp := [xQ 0 6 (.mov (.k (.int .i64 0)))]
@[simp] def b_RCPut_9 (_ : Unit) : EB := reg0 (hid l_RCPut_8) 1
@[simp] def l_RCPut_10 (_ : Unit) : List EOp := [xM 0 17 6, xQ 1 18 (.fad 0 (.t 3)), xQ 2 19 (.ldc (.t 18)), xQ 3 20 (.len (.t 19)), xQ 4 21 (.bin .lss (.t 17) (.t 20))]
@[simp] def b_RCPut_11 (_ : Unit) : EB := reg0 (hid l_RCPut_10) 5
@[simp] def b_RCPut_12 (_ : Unit) : EB := .cond (.t 21) .skip (.exit 0)
@[simp] def b_RCPut_13 (_ : Unit) : EB := .seq (hid b_RCPut_11) (hid b_RCPut_12)
@[simp] def l_RCPut_15 (_ : Unit) : List EOp := [xN 6 (.fz (.sto 35 (.t 7) (.t 28)))]
@[simp] def l_RCPut_14 (_ : Unit) : List EOp := xQ 0 24 (.fad 0 (.t 3)) :: xQ 1 25 (.ldc (.t 24)) :: xM 2 26 6 :: xQ 3 27 (.isl 35 (.t 25) (.t 26)) :: xQ 4 28 (.lda 35 (.t 27)) :: xQ 5 7 (.alloc 150 (([(.slice none 0 0)] : List Value) ++ zU8 ++ [(.int .i64 0), (.int .i64 0)])) :: hid l_RCPut_15
@[simp] def b_RCPut_16 (_ : Unit) : EB := reg0 (hid l_RCPut_14) 7
@[simp] def l_RCPut_18 (_ : Unit) : List EOp := [xM 6 5 34]
@[simp] def l_RCPut_17 (_ : Unit) : List EOp := xM 0 29 5 :: xQ 1 30 (.fad 0 (.t 7)) :: xQ 2 31 (.ldc (.t 30)) :: xQ 3 32 (.len (.t 31)) :: xQ 4 33 (.cnv .u64 (.t 32)) :: xO 5 34 (.call 147 [(.t 29), (.t 33)]) :: hid l_RCPut_18
@[simp] def b_RCPut_19 (_ : Unit) : EB := reg0 (hid l_RCPut_17) 7
@[simp] def l_RCPut_20 (_ : Unit) : List EOp := [xQ 0 8 (.mov (.k (.int .i64 0)))]
@[simp] def b_RCPut_21 (_ : Unit) : EB := reg0 (hid l_RCPut_20) 1
@[simp] def l_RCPut_22 (_ : Unit) : List EOp := [xM 0 35 8, xQ 1 36 (.fad 0 (.t 7)), xQ 2 37 (.ldc (.t 36)), xQ 3 38 (.len (.t 37)), xQ 4 39 (.bin .lss (.t 35) (.t 38))]
@[simp] def b_RCPut_23 (_ : Unit) : EB := reg0 (hid l_RCPut_22) 5
@[simp] def b_RCPut_24 (_ : Unit) : EB := .cond (.t 39) .skip (.exit 2)
@[simp] def b_RCPut_25 (_ : Unit) : EB := .seq (hid b_RCPut_23) (hid b_RCPut_24)
@[simp] def l_RCPut_27 (_ : Unit) : List EOp := [xQ 6 48 (.cnv .u64 (.t 47)), xO 7 49 (.call 147 [(.t 42), (.t 48)]), xM 8 5 49]
@[simp] def l_RCPut_26 (_ : Unit) : List EOp := xM 0 42 5 :: xQ 1 43 (.fad 0 (.t 7)) :: xQ 2 44 (.ldc (.t 43)) :: xM 3 45 8 :: xQ 4 46 (.isl 1 (.t 44) (.t 45)) :: xQ 5 47 (.ldc (.t 46)) :: hid l_RCPut_27
@[simp] def b_RCPut_28 (_ : Unit) : EB := reg0 (hid l_RCPut_26) 9
@[simp] def b_RCPut_29 (_ : Unit) : EB := .block 3 (hid b_RCPut_28)
@[simp] def l_RCPut_30 (_ : Unit) : List EOp := [xM 0 40 8, xQ 1 41 (.bin .add (.t 40) (.k (.int .i64 1))), xM 2 8 41]
@[simp] def b_RCPut_31 (_ : Unit) : EB := reg0 (hid l_RCPut_30) 3
@[simp] def b_RCPut_32 (_ : Unit) : EB := .seq (hid b_RCPut_29) (hid b_RCPut_31)
@[simp] def b_RCPut_33 (_ : Unit) : EB := .seq (hid b_RCPut_25) (hid b_RCPut_32)
@[simp] def b_RCPut_34 (_ : Unit) : EB := .loop (hid b_RCPut_33)
@[simp] def b_RCPut_35 (_ : Unit) : EB := .block 2 (hid b_RCPut_34)
@[simp] def b_RCPut_36 (_ : Unit) : EB := .seq (hid b_RCPut_21) (hid b_RCPut_35)
@[simp] def l_RCPut_39 (_ : Unit) : List EOp := [xM 12 5 61]
@[simp] def l_RCPut_38 (_ : Unit) : List EOp := xQ 8 58 (.fad 34 (.t 7)) :: xQ 9 59 (.ldc (.t 58)) :: xQ 10 60 (.cnv .u64 (.t 59)) :: ⟨3, (some 53), none, (.call 148 [(.t 50), (.t 52)]), [4, 5, 6, 8, 9, 10]⟩ :: ⟨7, (some 57), none, (.call 147 [(.t 53), (.t 56)]), [8, 9, 10]⟩ :: xO 11 61 (.call 147 [(.t 57), (.t 60)]) :: hid l_RCPut_39
@[simp] def l_RCPut_37 (_ : Unit) : List EOp := xM 0 50 5 :: xQ 1 51 (.fad 1 (.t 7)) :: xQ 2 52 (.lda 32 (.t 51)) :: xQ 4 54 (.fad 33 (.t 7)) :: xQ 5 55 (.ldc (.t 54)) :: xQ 6 56 (.cnv .u64 (.t 55)) :: hid l_RCPut_38
@[simp] def b_RCPut_40 (_ : Unit) : EB := reg1 (hid l_RCPut_37) 13
@[simp] def b_RCPut_41 (_ : Unit) : EB := .seq (hid b_RCPut_36) (hid b_RCPut_40)
@[simp] def b_RCPut_42 (_ : Unit) : EB := .seq (hid b_RCPut_19) (hid b_RCPut_41)
@[simp] def b_RCPut_43 (_ : Unit) : EB := .seq (hid b_RCPut_16) (hid b_RCPut_42)
@[simp] def b_RCPut_44 (_ : Unit) : EB := .block 1 (hid b_RCPut_43)
@[simp] def l_RCPut_45 (_ : Unit) : List EOp := [xM 0 22 6, xQ 1 23 (.bin .add (.t 22) (.k (.int .i64 1))), xM 2 6 23]
@[simp] def b_RCPut_46 (_ : Unit) : EB := reg0 (hid l_RCPut_45) 3
@[simp] def b_RCPut_47 (_ : Unit) : EB := .seq (hid b_RCPut_44) (hid b_RCPut_46)
@[simp] def b_RCPut_48 (_ : Unit) : EB := .seq (hid b_RCPut_13) (hid b_RCPut_47)
@[simp] def b_RCPut_49 (_ : Unit) : EB := .loop (hid b_RCPut_48)
@[simp] def b_RCPut_50 (_ : Unit) : EB := .block 0 (hid b_RCPut_49)
@[simp] def b_RCPut_51 (_ : Unit) : EB := .seq (hid b_RCPut_9) (hid b_RCPut_50)
@[simp] def l_RCPut_52 (_ : Unit) : List EOp := [xM 0 62 5, xM 1 4 62]
@[simp] def b_RCPut_53 (_ : Unit) : EB := reg0 (hid l_RCPut_52) 2
@[simp] def b_RCPut_54 (_ : Unit) : EB := .seq (hid b_RCPut_53) .ret
@[simp] def b_RCPut_55 (_ : Unit) : EB := .seq (hid b_RCPut_51) (hid b_RCPut_54)
@[simp] def b_RCPut_56 (_ : Unit) : EB := .seq (hid b_RCPut_7) (hid b_RCPut_55)
@[simp] def b_RCPut_57 (_ : Unit) : EB := .seq (hid b_RCPut_4) (hid b_RCPut_56)
@[simp] def b_RCPut_58 (_ : Unit) : EB := .seq (hid b_RCPut_2) (hid b_RCPut_57)
def c_RCPut : EB × List QOp × Nat := ((hid b_RCPut_58), [(.mov (.t 4))], 63)
theorem k_RCPut : cfun Tryz.prog 150 = some c_RCPut := by kernel_rfl
@[simp] def l_RTPut_1 (_ : Unit) : List EOp := [xQ 0 2 (.box 69 (.t 0)), xQ 1 4 (.mov (.k (.slice none 0 0)))]
@[simp] def b_RTPut_2 (_ : Unit) : EB := reg0 (hid l_RTPut_1) 2
@[simp] def l_RTPut_4 (_ : Unit) : List EOp := [xQ 7 16 (.cnv .u64 (.t 15)), ⟨3, (some 12), none, (.call 147 [(.k (.slice none 0 0)), (.t 11)]), [4, 5, 6, 7]⟩, xO 8 17 (.call 147 [(.t 12), (.t 16)]), xM 9 5 17]
@[simp] def l_RTPut_3 (_ : Unit) : List EOp := xQ 0 9 (.fad 0 (.t 2)) :: xQ 1 10 (.ldc (.t 9)) :: xQ 2 11 (.cnv .u64 (.t 10)) :: xQ 4 13 (.fad 1 (.t 2)) :: xQ 5 14 (.ldc (.t 13)) :: xQ 6 15 (.len (.t 14)) :: hid l_RTPut_4
@[simp] def b_RTPut_5 (_ : Unit) : EB := reg1 (hid l_RTPut_3) 10
@[simp] def l_RTPut_6 (_ : Unit) : List EOp := [xQ 0 6 (.mov (.k (.int .i64 0)))]
@[simp] def b_RTPut_7 (_ : Unit) : EB := reg0 (hid l_RTPut_6) 1
@[simp] def l_RTPut_8 (_ : Unit) : List EOp := [xM 0 18 6, xQ 1 19 (.fad 1 (.t 2)), xQ 2 20 (.ldc (.t 19)), xQ 3 21 (.len (.t 20)), xQ 4 22 (.bin .lss (.t 18) (.t 21))]
@[simp] def b_RTPut_9 (_ : Unit) : EB := reg0 (hid l_RTPut_8) 5
@[simp] def b_RTPut_10 (_ : Unit) : EB := .cond (.t 22) .skip (.exit 0)
@[simp] def b_RTPut_11 (_ : Unit) : EB := .seq (hid b_RTPut_9) (hid b_RTPut_10)
@[simp] def l_RTPut_13 (_ : Unit) : List EOp := [xN 6 (.fz (.sto 35 (.t 7) (.t 29)))]
@[simp] def l_RTPut_12 (_ : Unit) : List EOp := xQ 0 25 (.fad 1 (.t 2)) :: xQ 1 26 (.ldc (.t 25)) :: xM 2 27 6 :: xQ 3 28 (.isl 35 (.t 26) (.t 27)) :: xQ 4 29 (.lda 35 (.t 28)) :: xQ 5 7 (.alloc 83 (zU8 ++ [(.int .i64 0), (.int .i64 0), (.slice none 0 0)])) :: hid l_RTPut_13
@[simp] def b_RTPut_14 (_ : Unit) : EB := reg0 (hid l_RTPut_12) 7
@[simp] def l_RTPut_17 (_ : Unit) : List EOp := [⟨9, (some 39), none, (.call 147 [(.t 34), (.t 38)]), [10, 11, 12]⟩, xO 13 43 (.call 147 [(.t 39), (.t 42)]), xM 14 5 43]
@[simp] def l_RTPut_16 (_ : Unit) : List EOp := xQ 7 37 (.ldc (.t 36)) :: xQ 8 38 (.cnv .u64 (.t 37)) :: xQ 10 40 (.fad 33 (.t 7)) :: xQ 11 41 (.ldc (.t 40)) :: xQ 12 42 (.cnv .u64 (.t 41)) :: ⟨4, (some 34), none, (.call 148 [(.t 30), (.t 33)]), [5, 6, 7, 8, 10, 11, 12]⟩ :: hid l_RTPut_17
@[simp] def l_RTPut_15 (_ : Unit) : List EOp := xM 0 30 5 :: xQ 1 31 (.fad 0 (.t 7)) :: xQ 2 32 (.fad 0 (.t 31)) :: xQ 3 33 (.lda 32 (.t 32)) :: xQ 5 35 (.fad 0 (.t 7)) :: xQ 6 36 (.fad 32 (.t 35)) :: hid l_RTPut_16
@[simp] def b_RTPut_18 (_ : Unit) : EB := reg1 (hid l_RTPut_15) 15
@[simp] def l_RTPut_19 (_ : Unit) : List EOp := [xM 0 44 1]
@[simp] def b_RTPut_20 (_ : Unit) : EB := reg0 (hid l_RTPut_19) 1
@[simp] def l_RTPut_21 (_ : Unit) : List EOp := [xM 0 45 5, xQ 1 46 (.fad 34 (.t 7)), xQ 2 47 (.ldc (.t 46)), xO 3 48 (.call 149 [(.t 45), (.t 47)]), xM 4 5 48]
@[simp] def b_RTPut_22 (_ : Unit) : EB := reg0 (hid l_RTPut_21) 5
@[simp] def l_RTPut_23 (_ : Unit) : List EOp := [xM 0 49 5, xO 1 50 (.call 149 [(.t 49), (.k (.slice none 0 0))]), xM 2 5 50]
@[simp] def b_RTPut_24 (_ : Unit) : EB := reg0 (hid l_RTPut_23) 3
@[simp] def b_RTPut_25 (_ : Unit) : EB := .cond (.t 44) (hid b_RTPut_22) (hid b_RTPut_24)
@[simp] def b_RTPut_26 (_ : Unit) : EB := .seq (hid b_RTPut_20) (hid b_RTPut_25)
@[simp] def b_RTPut_27 (_ : Unit) : EB := .seq (hid b_RTPut_18) (hid b_RTPut_26)
@[simp] def b_RTPut_28 (_ : Unit) : EB := .seq (hid b_RTPut_14) (hid b_RTPut_27)
@[simp] def b_RTPut_29 (_ : Unit) : EB := .block 1 (hid b_RTPut_28)
@[simp] def l_RTPut_30 (_ : Unit) : List EOp := [xM 0 23 6, xQ 1 24 (.bin .add (.t 23) (.k (.int .i64 1))), xM 2 6 24]
@[simp] def b_RTPut_31 (_ : Unit) : EB := reg0 (hid l_RTPut_30) 3
@[simp] def b_RTPut_32 (_ : Unit) : EB := .seq (hid b_RTPut_29) (hid b_RTPut_31)
@[simp] def b_RTPut_33 (_ : Unit) : EB := .seq (hid b_RTPut_11) (hid b_RTPut_32)
@[simp] def b_RTPut_34 (_ : Unit) : EB := .loop (hid b_RTPut_33)
@[simp] def b_RTPut_35 (_ : Unit) : EB := .block 0 (hid b_RTPut_34)
@[simp] def b_RTPut_36 (_ : Unit) : EB := .seq (hid b_RTPut_7) (hid b_RTPut_35)
@[simp] def l_RTPut_38 (_ : Unit) : List EOp := [xM 6 5 56]
@[simp] def l_RTPut_37 (_ : Unit) : List EOp := xM 0 51 5 :: xQ 1 52 (.fad 2 (.t 2)) :: xQ 2 53 (.ldc (.t 52)) :: xQ 3 54 (.len (.t 53)) :: xQ 4 55 (.cnv .u64 (.t 54)) :: xO 5 56 (.call 147 [(.t 51), (.t 55)]) :: hid l_RTPut_38
@[simp] def b_RTPut_39 (_ : Unit) : EB := reg0 (hid l_RTPut_37) 7
@[simp] def l_RTPut_40 (_ : Unit) : List EOp := [xQ 0 8 (.mov (.k (.int .i64 0)))]
@[simp] def b_RTPut_41 (_ : Unit) : EB := reg0 (hid l_RTPut_40) 1
@[simp] def l_RTPut_42 (_ : Unit) : List EOp := [xM 0 57 8, xQ 1 58 (.fad 2 (.t 2)), xQ 2 59 (.ldc (.t 58)), xQ 3 60 (.len (.t 59)), xQ 4 61 (.bin .lss (.t 57) (.t 60))]
@[simp] def b_RTPut_43 (_ : Unit) : EB := reg0 (hid l_RTPut_42) 5
@[simp] def b_RTPut_44 (_ : Unit) : EB := .cond (.t 61) .skip (.exit 2)
@[simp] def b_RTPut_45 (_ : Unit) : EB := .seq (hid b_RTPut_43) (hid b_RTPut_44)
@[simp] def l_RTPut_48 (_ : Unit) : List EOp := [xQ 13 77 (.fad 1 (.t 76)), xQ 14 78 (.lda 1 (.t 77)), ⟨8, (some 72), none, (.call 147 [(.t 64), (.t 71)]), [9, 10, 11, 12, 13, 14]⟩, xO 15 79 (.call 150 [(.t 72), (.t 78)]), xM 16 5 79]
@[simp] def l_RTPut_47 (_ : Unit) : List EOp := xQ 6 70 (.ldc (.t 69)) :: xQ 7 71 (.cnv .u64 (.t 70)) :: xQ 9 73 (.fad 2 (.t 2)) :: xQ 10 74 (.ldc (.t 73)) :: xM 11 75 8 :: xQ 12 76 (.isl 2 (.t 74) (.t 75)) :: hid l_RTPut_48
@[simp] def l_RTPut_46 (_ : Unit) : List EOp := xM 0 64 5 :: xQ 1 65 (.fad 2 (.t 2)) :: xQ 2 66 (.ldc (.t 65)) :: xM 3 67 8 :: xQ 4 68 (.isl 2 (.t 66) (.t 67)) :: xQ 5 69 (.fad 0 (.t 68)) :: hid l_RTPut_47
@[simp] def b_RTPut_49 (_ : Unit) : EB := reg1 (hid l_RTPut_46) 17
@[simp] def b_RTPut_50 (_ : Unit) : EB := .block 3 (hid b_RTPut_49)
@[simp] def l_RTPut_51 (_ : Unit) : List EOp := [xM 0 62 8, xQ 1 63 (.bin .add (.t 62) (.k (.int .i64 1))), xM 2 8 63]
@[simp] def b_RTPut_52 (_ : Unit) : EB := reg0 (hid l_RTPut_51) 3
@[simp] def b_RTPut_53 (_ : Unit) : EB := .seq (hid b_RTPut_50) (hid b_RTPut_52)
@[simp] def b_RTPut_54 (_ : Unit) : EB := .seq (hid b_RTPut_45) (hid b_RTPut_53)
@[simp] def b_RTPut_55 (_ : Unit) : EB := .loop (hid b_RTPut_54)
@[simp] def b_RTPut_56 (_ : Unit) : EB := .block 2 (hid b_RTPut_55)
@[simp] def b_RTPut_57 (_ : Unit) : EB := .seq (hid b_RTPut_41) (hid b_RTPut_56)
@[simp] def l_RTPut_58 (_ : Unit) : List EOp := [xM 0 80 5, xM 1 4 80]
@[simp] def b_RTPut_59 (_ : Unit) : EB := reg0 (hid l_RTPut_58) 2
@[simp] def b_RTPut_60 (_ : Unit) : EB := .seq (hid b_RTPut_59) .ret
@[simp] def b_RTPut_61 (_ : Unit) : EB := .seq (hid b_RTPut_57) (hid b_RTPut_60)
@[simp] def b_RTPut_62 (_ : Unit) : EB := .seq (hid b_RTPut_39) (hid b_RTPut_61)
@[simp] def b_RTPut_63 (_ : Unit) : EB := .seq (hid b_RTPut_36) (hid b_RTPut_62)
@[simp] def b_RTPut_64 (_ : Unit) : EB := .seq (hid b_RTPut_5) (hid b_RTPut_63)
@[simp] def b_RTPut_65 (_ : Unit) : EB := .seq (hid b_RTPut_2) (hid b_RTPut_64)
def c_RTPut : EB × List QOp × Nat := ((hid b_RTPut_65), [(.mov (.t 4))], 81)
theorem k_RTPut : cfun Tryz.prog 99 = some c_RTPut := by kernel_rfl
@[simp] def l_RTEncode_1 (_ : Unit) : List EOp := [xQ 0 1 (.box 69 (.t 0)), xQ 1 2 (.mov (.k (.slice none 0 0)))]
@[simp] def b_RTEncode_2 (_ : Unit) : EB := reg0 (hid l_RTEncode_1) 2
@[simp] def l_RTEncode_3 (_ : Unit) : List EOp := [xQ 0 3 (.lda 3 (.t 1)), xO 1 4 (.call 99 [(.t 3), (.k (.bool true))]), xM 2 2 4]
@[simp] def b_RTEncode_4 (_ : Unit) : EB := reg0 (hid l_RTEncode_3) 3
@[simp] def b_RTEncode_5 (_ : Unit) : EB := .seq (hid b_RTEncode_4) .ret
@[simp] def b_RTEncode_6 (_ : Unit) : EB := .seq (hid b_RTEncode_2) (hid b_RTEncode_5)
def c_RTEncode : EB × List QOp × Nat := ((hid b_RTEncode_6), [(.mov (.t 2))], 5)
theorem k_RTEncode : cfun Tryz.prog 55 = some c_RTEncode := by kernel_rfl
set_option maxHeartbeats 8000000 in
theorem RCPut_ok (pre : List UInt8) (l : List Bra) (hl : ∀ b ∈ l, b.ok) (hn : l.length ≤ 100000000) (hs : pre.length + (cndB l).length ≤ 400000000) : ECalls Tryz.prog 150 [Bs pre, CNv l] [] fun y H' => H' = [some (RO (pre ++ cndB l))] ∧ y = R 0 (pre ++ cndB l) := by
  have hc0 : (cndB l).length = (uB (l.length : Int)).length + (brsB l).length := by simp [cndB]
  obtain ⟨F, hF⟩ : ∃ F : Nat → List UInt8, F = fun i => pre ++ uB (l.length : Int) ++ brsB (l.take i) := ⟨_, rfl⟩
  have hF0 : pre ++ uB (l.length : Int) = F 0 := by rw [hF]; simp [brsB]
  have hFl : ∀ i, (F i).length ≤ 400000000 := by
    intro i
    have hfl := flat_take braB l i
    rw [hF]; simp only [List.length_append]; unfold brsB at *; omega
  refine ecalls k_RCPut ?_
  simp [c_RCPut, CNv, Bs]
  refine ⟨⟨by omega, by omega⟩, ?_⟩
  simp only [wrap_u64n]
  refine call0 (RUint_ok pre (u64n (l.length : Int)) (u64n_lt _) (by omega)) (by simp [I, Bs, List.take_of_length_le]) ?_
  rintro y H' ⟨rfl, rfl⟩
  refine ⟨.inr ⟨rfl, by simp [RO, bsv, cb]⟩, le_ok rfl, ?_⟩
  simp only [uB_eq, hF0]
  simp [R, RO]
  refine eloop (α := Nat) (fun i => i ≤ l.length) (fun i => l.length - i)
    (fun i => [.any, .any, .any, Ptr 0, .any, R 1 (F i), I .i64 i, .any, .any, .any, .any, .any, .any, .any, .any, .any, .any, .any, .any, .any, .any, .any, .any, .any, .any, .any, .any, .any, .any, .any, .any, .any, .any, .any, .any, .any, .any, .any, .any, .any, .any, .any, .any, .any, .any, .any, .any, .any, .any, .any, .any, .any, .any, .any, .any, .any, .any, .any, .any, .any, .any, .any, .any]) (fun i => [some (.box 145 [.fz (.sl 35 (brav l))]), some (RO (F i))]) 0 [0, 160]
    (Nat.zero_le _) (by simp [Ptr, I, R]) (by simp [RO]) (by simp) (by simp) (by simp) ?_
  intro i hi
  have hX := hFl i
  simp [Ptr, I, R, RO]
  refine alt (fun hlt => ?_) (fun hlt => ?_)
  · have hln : i < l.length := by omega
    obtain ⟨b, hcx⟩ : ∃ b, l[i]? = some b := ⟨l[i], by simp [hln]⟩
    have hge : (brav l)[i]'(by simpa using hln) = braF b := by
      have e := brav_get hcx
      rw [List.getElem?_eq_getElem (by simpa using hln)] at e
      exact Option.some.inj e
    have hb := hl b (List.mem_of_getElem? hcx)
    obtain ⟨b1, b2, b3, b4, b5⟩ := id hb
    have l0 := bc_len b2
    have f0 := bf_len b2
    have tk := bc_take b2
    have lk : List.take 32 (braC b).tail = hc b.lock := by have := bc_lock b2; simpa using this
    have e0 := idx_of (bc_0 b) (by omega)
    have e33 := idx_of (bc_33 b2) (by omega)
    have e34 := idx_of (bc_34 b2) (by omega)
    have w1 : IntKind.i64.wrap ((i : Int) + 1) = ((i + 1 : Nat) : Int) := wrap_i64 (by omega) (by omega)
    have hfs := flat_take_s braB hcx
    have hbl : (braB b).length = (uB (b.keys.length : Int)).length + ((usB b.keys).length + (32 + ((uB b.af).length + (uB b.ol).length))) := by simp [braB, b2]
    have hXb : (F i).length + (braB b).length ≤ 400000000 := by
      rw [hF]; simp only [List.length_append]; unfold brsB at *; omega
    have hFs : F (i + 1) = F i ++ braB b := by rw [hF]; simp [take_s hcx, brsB_snoc]
    simp [hln, hge, braF_fz, l0, f0, tk, lk, e0, e33, e34, wrap_u64n, drop34z, iC, RO, R, Ptr]
    refine call0 (RUint_ok (F i) (u64n (b.keys.length : Int)) (u64n_lt _) (by omega)) (by simp [I, Bs, List.take_of_length_le]) ?_
    rintro y H' ⟨rfl, rfl⟩
    refine ⟨.inr ⟨rfl, by simp [RO, bsv, cb]⟩, le_ok rfl, ?_⟩
    obtain ⟨G, hG⟩ : ∃ G : Nat → List UInt8, G = fun j => F i ++ uB (b.keys.length : Int) ++ usB (b.keys.take j) := ⟨_, rfl⟩
    have hG0 : F i ++ uB (b.keys.length : Int) = G 0 := by rw [hG]; simp [usB]
    have hGl : ∀ j, (G j).length + 32 + (uB b.af).length + (uB b.ol).length ≤ 400000000 := by
      intro j
      have hfk := flat_take uB b.keys j
      rw [hG]; simp only [List.length_append]; unfold usB at *; omega
    simp only [uB_eq, hG0]
    simp [hln, hge, braF_fz, l0, f0, tk, lk, e0, e33, e34, wrap_u64n, drop34z, iC, RO, R, Ptr]
    refine eloop (α := Nat) (fun j => j ≤ b.keys.length) (fun j => b.keys.length - j)
      (fun j => [.any, .any, .any, Ptr 0, .any, R 1 (G j), I .i64 i, Ptr 2, I .i64 j, .any, .any, .any, .any, .any, .any, .any, .any, .any, .any, .any, .any, .any, .any, .any, .any, .any, .any, .any, .any, .any, .any, .any, .any, .any, .any, .any, .any, .any, .any, .any, .any, .any, .any, .any, .any, .any, .any, .any, .any, .any, .any, .any, .any, .any, .any, .any, .any, .any, .any, .any, .any, .any, .any])
      (fun j => [some (.box 145 [.fz (.sl 35 (brav l))]), some (RO (G j)), some (.box 150 (braC b))]) 0 [0, 274, 162]
      (Nat.zero_le _) (by simp [Ptr, I, R]) (by simp [RO]) (by simp) (by simp) (by simp) ?_
    intro j hj
    have hY := hGl j
    simp [Ptr, I, R, RO, l0, e0]
    refine alt (fun hlt2 => ?_) (fun hlt2 => ?_)
    · have hjn : j < b.keys.length := by omega
      obtain ⟨k, hc2⟩ : ∃ k, b.keys[j]? = some k := ⟨b.keys[j], by simp [hjn]⟩
      have hcb2 := intv_get hc2
      have w3 : IntKind.i64.wrap ((j : Int) + 1) = ((j + 1 : Nat) : Int) := wrap_i64 (by omega) (by omega)
      have hGs : G (j + 1) = G j ++ uB k := by rw [hG]; simp [take_s hc2, usB_snoc]
      simp [hcb2, hln, hge, braF_fz, l0, f0, tk, lk, e0, e33, e34, wrap_u64n, drop34z, iC, RO, R, Ptr]
      refine call0 (RUint_ok (G j) (u64n k) (u64n_lt _) (by omega)) (by simp [I, Bs, List.take_of_length_le]) ?_
      rintro y H' ⟨rfl, rfl⟩
      refine ⟨.inr ⟨rfl, by simp [RO, bsv, cb]⟩, le_ok rfl, ?_⟩
      simp only [uB_eq, ← hGs]
      simp [R, RO, w3, -Int.natCast_add]
      exact round (j + 1) [0, 195, 2] (by omega) (by omega) (by simp [Ptr, I, R]) (by simp [RO]) (by simp) (by simp) (by simp)
    have hjl : j = b.keys.length := by omega
    subst hjl
    simp [hln, hge, braF_fz, l0, f0, tk, lk, e0, e33, e34, wrap_u64n, drop34z, iC, RO, R, Ptr]
    refine call0 (RHash_ok (G b.keys.length) b.lock (by omega) b2) (by simp [Ag, Bs, List.take_of_length_le, lk]) ?_
    rintro y H' ⟨rfl, rfl⟩
    refine ⟨.inr ⟨rfl, by simp [RO, bsv, cb]⟩, le_ok rfl, ?_⟩
    simp [hln, hge, braF_fz, l0, f0, tk, lk, e0, e33, e34, wrap_u64n, drop34z, iC, RO, R, Ptr]
    refine call0 (RUint_ok (G b.keys.length ++ b.lock) (u64n b.af) (u64n_lt _) (by simp; omega)) (by simp [I, Bs, List.take_of_length_le]) ?_
    rintro y H' ⟨rfl, rfl⟩
    refine ⟨.inr ⟨rfl, by simp [RO, bsv, cb]⟩, le_ok rfl, ?_⟩
    simp only [uB_eq]
    simp [hln, hge, braF_fz, l0, f0, tk, lk, e0, e33, e34, wrap_u64n, drop34z, iC, RO, R, Ptr]
    refine call0 (RUint_ok (G b.keys.length ++ b.lock ++ uB b.af) (u64n b.ol) (u64n_lt _) (by simp; omega)) (by simp [I, Bs, List.take_of_length_le]) ?_
    rintro y H' ⟨rfl, rfl⟩
    refine ⟨.inr ⟨rfl, by simp [RO, bsv, cb]⟩, le_ok rfl, ?_⟩
    have hGe : G b.keys.length ++ b.lock ++ uB b.af ++ uB b.ol = F (i + 1) := by rw [hFs, hG]; simp [braB]
    simp only [uB_eq, hGe]
    simp [R, RO, Ptr, w1, -Int.natCast_add]
    exact round (i + 1) [0, 259] (by omega) (by omega) (by simp [Ptr, I, R]) (by simp [RO]) (by simp) (by simp) (by simp)
  have hil : i = l.length := by omega
  subst hil
  have hXc : pre ++ cndB l = F l.length := by rw [hF]; simp [cndB]
  simp
  exact fin [1] (by decide) rfl rfl rfl ⟨by simp [hXc, RO], by simp [← hXc, R]⟩
theorem ecalls_nilC {P : Program} {f : FuncId} {e : Nat} {x : EV} {rest : List EV} {H : List EO} {post : EV → List (Option EO) → Prop} (h : ECalls P f (x :: .v (.c (.fz (.sl e []))) :: rest) H post) :
    ECalls P f (x :: .v (.c (.fz (.lit (.slice none 0 0)))) :: rest) H post := by
  intro ρ Φ w vals r' ha
  refine h ρ Φ w vals r' ?_
  obtain ⟨u0, us0, rfl, h0, ha⟩ := ha.cons_left
  obtain ⟨u, us, rfl, h1, h2⟩ := ha.cons_left
  have h1' : VR ⟨fun o => o < H.length, ρ, Φ, w⟩ (.fz (.lit (.slice none 0 0))) u := h1
  exact All2.cons h0 (All2.cons (nl_vr h1') h2)
set_option maxHeartbeats 16000000 in
theorem RTPutF_ok (sb : Bool) (t : Txn) (ht : t.ok) (hsb : sb = true ∨ ∀ x ∈ t.ins, x.sec = []) (hsec : ∀ x ∈ t.ins, x.sec.length ≤ 10000000) (hs : (encT t).length ≤ 400000000) : ECalls Tryz.prog 99 [TXv t, .lit (.bool sb)] [] fun y H' => H' = [] ∧ y = Bs (encT t) := by
  obtain ⟨t1, t2, t3, t4, t5⟩ := id ht
  have hlen : (encT t).length = (uB t.lk).length + (uB (t.ins.length : Int)).length + (insB t.ins).length + (uB (t.outs.length : Int)).length + (ousB t.outs).length := by simp [encT, mdB, hdB]; try omega
  obtain ⟨F, hF⟩ : ∃ F : Nat → List UInt8, F = fun i => hdB t ++ insB (t.ins.take i) := ⟨_, rfl⟩
  have hF0 : uB t.lk ++ uB (t.ins.length : Int) = F 0 := by rw [hF]; simp [insB, hdB]
  have hFl : ∀ i, (F i).length ≤ 400000000 := by
    intro i
    have hfl := flat_take inpB t.ins i
    rw [hF]; simp only [List.length_append, hdB]; unfold insB at *; omega
  have hFe : F t.ins.length = hdB t ++ insB t.ins := by rw [hF]; simp
  obtain ⟨K, hK⟩ : ∃ K : Nat → List UInt8, K = fun i => mdB t ++ ousB (t.outs.take i) := ⟨_, rfl⟩
  have hK0 : F t.ins.length ++ uB (t.outs.length : Int) = K 0 := by rw [hK, hFe]; simp [ousB, mdB]
  have hKl : ∀ i, (K i).length ≤ 400000000 := by
    intro i
    have hfl := flat_take oupB t.outs i
    rw [hK]; simp only [List.length_append, hdB, mdB]; unfold ousB at *; omega
  refine ecalls k_RTPut ?_
  simp [c_RTPut, TXv, txC, iC, wrap_u64n]
  refine call0 (RUint_nil (u64n t.lk) (u64n_lt _)) (by simp [I]) ?_
  rintro y H' ⟨rfl, rfl⟩
  refine ⟨.inl (by simp), le_ok rfl, ?_⟩
  simp only [uB_eq]
  simp [R, RO, wrap_u64n]
  refine call0 (RUint_ok (uB t.lk) (u64n (t.ins.length : Int)) (u64n_lt _) (by omega)) (by simp [I, Bs, List.take_of_length_le]) ?_
  rintro y H' ⟨rfl, rfl⟩
  refine ⟨.inr ⟨rfl, by simp [RO, bsv, cb]⟩, le_ok rfl, ?_⟩
  simp only [uB_eq, hF0]
  simp [R, RO, wrap_u64n]
  refine eloop (α := Nat) (fun i => i ≤ t.ins.length) (fun i => t.ins.length - i)
    (fun i => [.any, .lit (.bool sb), Ptr 0, .any, .any, R 1 (F i), I .i64 i, .any, .any, .any, .any, .any, .any, .any, .any, .any, .any, .any, .any, .any, .any, .any, .any, .any, .any, .any, .any, .any, .any, .any, .any, .any, .any, .any, .any, .any, .any, .any, .any, .any, .any, .any, .any, .any, .any, .any, .any, .any, .any, .any, .any, .any, .any, .any, .any, .any, .any, .any, .any, .any, .any, .any, .any, .any, .any, .any, .any, .any, .any, .any, .any, .any, .any, .any, .any, .any, .any, .any, .any, .any, .any]) (fun i => [some (.box 69 (txC t)), some (RO (F i))]) 0 [0, 160]
    (Nat.zero_le _) (by simp [Ptr, I, R]) (by simp [RO, txC, iC]) (by simp) (by simp) (by simp) ?_
  intro i hi
  have hX := hFl i
  simp [Ptr, I, R, RO, txC, iC]
  refine alt (fun hlt => ?_) (fun hlt => ?_)
  · have hln : i < t.ins.length := by omega
    obtain ⟨x, hcx⟩ : ∃ x, t.ins[i]? = some x := ⟨t.ins[i], by simp [hln]⟩
    have hge : (inpv t.ins)[i]'(by simpa using hln) = inpF x := by
      have e := inpv_get hcx
      rw [List.getElem?_eq_getElem (by simpa using hln)] at e
      exact Option.some.inj e
    have hx := t2 x (List.mem_of_getElem? hcx)
    obtain ⟨x1, x2, x3, x4⟩ := id hx
    have x5 := hsec x (List.mem_of_getElem? hcx)
    have l0 := ic_len x1
    have f0 := if_len x1
    have tk := ic_take x1
    have th := ic_hash x1
    have e32 := idx_of (ic_32 x1) (by omega)
    have e33 := idx_of (ic_33 x1) (by omega)
    have e34 := idx_of (ic_34 x1) (by omega)
    have w1 : IntKind.i64.wrap ((i : Int) + 1) = ((i + 1 : Nat) : Int) := wrap_i64 (by omega) (by omega)
    have hfs := flat_take_s inpB hcx
    have hbl : (inpB x).length = 32 + ((uB x.n).length + ((uB x.br).length + (bytesB x.sec).length)) := by simp [inpB, x1]
    have hXb : (F i).length + (inpB x).length ≤ 400000000 := by
      rw [hF]; simp only [List.length_append, hdB]; unfold insB at *; omega
    have hFs : F (i + 1) = F i ++ inpB x := by rw [hF]; simp [take_s hcx, insB_snoc]
    simp [hln, hge, inpF_fz, l0, f0, tk, th, e32, e33, e34, wrap_u64n, drop35h, iC, RO, R, Ptr]
    refine call0 (RHash_ok (F i) x.tx (by omega) x1) (by simp [Ag, Bs, List.take_of_length_le]) ?_
    rintro y H' ⟨rfl, rfl⟩
    refine ⟨.inr ⟨rfl, by simp [RO, bsv, cb]⟩, le_ok rfl, ?_⟩
    simp [hln, hge, inpF_fz, l0, f0, tk, th, e32, e33, e34, wrap_u64n, drop35h, iC, RO, R, Ptr]
    refine call0 (RUint_ok (F i ++ x.tx) (u64n x.n) (u64n_lt _) (by simp; omega)) (by simp [I, Bs, List.take_of_length_le]) ?_
    rintro y H' ⟨rfl, rfl⟩
    refine ⟨.inr ⟨rfl, by simp [RO, bsv, cb]⟩, le_ok rfl, ?_⟩
    simp only [uB_eq]
    simp [hln, hge, inpF_fz, l0, f0, tk, th, e32, e33, e34, wrap_u64n, drop35h, iC, RO, R, Ptr]
    refine call0 (RUint_ok (F i ++ x.tx ++ uB x.n) (u64n x.br) (u64n_lt _) (by simp; omega)) (by simp [I, Bs, List.take_of_length_le]) ?_
    rintro y H' ⟨rfl, rfl⟩
    refine ⟨.inr ⟨rfl, by simp [RO, bsv, cb]⟩, le_ok rfl, ?_⟩
    simp only [uB_eq]
    have hGe : F i ++ x.tx ++ uB x.n ++ uB x.br ++ bytesB x.sec = F (i + 1) := by rw [hFs]; simp [inpB]
    cases sb
    · have hse : x.sec = [] := by
        rcases hsb with hsb | hsb
        · exact absurd hsb (by simp)
        · exact hsb x (List.mem_of_getElem? hcx)
      rw [hse] at hGe
      simp [hln, hge, inpF_fz, l0, f0, tk, th, e32, e33, e34, wrap_u64n, drop35h, iC, RO, R, Ptr]
      refine call0 (ecalls_nilC (e := 1) (RBytes_ok (F i ++ x.tx ++ uB x.n ++ uB x.br) [] (by simp; omega) (by simp))) (by simp [Bs, List.take_of_length_le]) ?_
      rintro y H' ⟨rfl, rfl⟩
      refine ⟨.inr ⟨rfl, by simp [RO, bsv, cb]⟩, le_ok rfl, ?_⟩
      simp only [hGe]
      simp [R, RO, Ptr, w1, -Int.natCast_add]
      exact round (i + 1) [0, 466] (by omega) (by omega) (by simp [Ptr, I, R]) (by simp [RO, txC, iC]) (by simp) (by simp) (by simp)
    · simp [hln, hge, inpF_fz, l0, f0, tk, th, e32, e33, e34, wrap_u64n, drop35h, iC, RO, R, Ptr]
      refine call0 (RBytes_ok (F i ++ x.tx ++ uB x.n ++ uB x.br) x.sec (by simp; omega) (by omega)) (by simp [Bs, List.take_of_length_le]) ?_
      rintro y H' ⟨rfl, rfl⟩
      refine ⟨.inr ⟨rfl, by simp [RO, bsv, cb]⟩, le_ok rfl, ?_⟩
      simp only [hGe]
      simp [R, RO, Ptr, w1, -Int.natCast_add]
      exact round (i + 1) [0, 498] (by omega) (by omega) (by simp [Ptr, I, R]) (by simp [RO, txC, iC]) (by simp) (by simp) (by simp)
  have hil : i = t.ins.length := by omega
  subst hil
  simp [wrap_u64n]
  refine call0 (RUint_ok (F t.ins.length) (u64n (t.outs.length : Int)) (u64n_lt _) (by omega)) (by simp [I, Bs, List.take_of_length_le]) ?_
  rintro y H' ⟨rfl, rfl⟩
  refine ⟨.inr ⟨rfl, by simp [RO, bsv, cb]⟩, le_ok rfl, ?_⟩
  simp only [uB_eq, hK0]
  simp [R, RO]
  refine eloop (α := Nat) (fun i => i ≤ t.outs.length) (fun i => t.outs.length - i)
    (fun i => [.any, .any, Ptr 0, .any, .any, R 1 (K i), .any, .any, I .i64 i, .any, .any, .any, .any, .any, .any, .any, .any, .any, .any, .any, .any, .any, .any, .any, .any, .any, .any, .any, .any, .any, .any, .any, .any, .any, .any, .any, .any, .any, .any, .any, .any, .any, .any, .any, .any, .any, .any, .any, .any, .any, .any, .any, .any, .any, .any, .any, .any, .any, .any, .any, .any, .any, .any, .any, .any, .any, .any, .any, .any, .any, .any, .any, .any, .any, .any, .any, .any, .any, .any, .any, .any]) (fun i => [some (.box 69 (txC t)), some (RO (K i))]) 0 [0, 162]
    (Nat.zero_le _) (by simp [Ptr, I, R]) (by simp [RO, txC, iC]) (by simp) (by simp) (by simp) ?_
  intro i hi
  have hX := hKl i
  simp [Ptr, I, R, RO, txC, iC]
  refine alt (fun hlt => ?_) (fun hlt => ?_)
  · have hln : i < t.outs.length := by omega
    obtain ⟨x, hcx⟩ : ∃ x, t.outs[i]? = some x := ⟨t.outs[i], by simp [hln]⟩
    have hge : (outv t.outs)[i]'(by simpa using hln) = outF x := by
      have e := outv_get hcx
      rw [List.getElem?_eq_getElem (by simpa using hln)] at e
      exact Option.some.inj e
    obtain ⟨x1, x2, x3⟩ := t3 x (List.mem_of_getElem? hcx)
    have w1 : IntKind.i64.wrap ((i : Int) + 1) = ((i + 1 : Nat) : Int) := wrap_i64 (by omega) (by omega)
    have hfs := flat_take_s oupB hcx
    have hbl : (oupB x).length = (uB x.am).length + (cndB x.cs).length := by simp [oupB]
    have hXb : (K i).length + (oupB x).length ≤ 400000000 := by
      rw [hK]; simp only [List.length_append, hdB, mdB]; unfold ousB at *; omega
    have hKs : K (i + 1) = K i ++ oupB x := by rw [hK]; simp [take_s hcx, ousB_snoc]
    simp [hln, hge, outF, iF, wrap_u64n]
    refine call0 (RUint_ok (K i) (u64n x.am) (u64n_lt _) (by omega)) (by simp [I, Bs, List.take_of_length_le]) ?_
    rintro y H' ⟨rfl, rfl⟩
    refine ⟨.inr ⟨rfl, by simp [RO, bsv, cb]⟩, le_ok rfl, ?_⟩
    simp only [uB_eq]
    simp [hln, hge, outF, iF, R, RO, wrap_u64n]
    refine call0 (RCPut_ok (K i ++ uB x.am) x.cs x2 x3 (by simp; omega)) (by simp [CNv, Bs, List.take_of_length_le]) ?_
    rintro y H' ⟨rfl, rfl⟩
    refine ⟨.inr ⟨rfl, by simp [RO, bsv, cb]⟩, le_ok rfl, ?_⟩
    have hGe : K i ++ uB x.am ++ cndB x.cs = K (i + 1) := by rw [hKs]; simp [oupB]
    simp only [hGe]
    simp [R, RO, w1, -Int.natCast_add]
    exact round (i + 1) [0, 322] (by omega) (by omega) (by simp [R, I, Ptr]) (by simp [RO, txC, iC]) (by simp) (by simp) (by simp)
  have hil : i = t.outs.length := by omega
  subst hil
  have hKe : K t.outs.length = encT t := by rw [hK]; simp [encT]
  simp
  refine finW _ (weak_frz (o := 1) (ty := 5) (es := 1) (xs := bsv (K t.outs.length)) rfl) ?_
  exact fin [] (by decide) rfl rfl rfl ⟨rfl, by simp [Bs, hKe, List.take_of_length_le]⟩
theorem RTPut_ok (t : Txn) (ht : t.ok) (hsec : ∀ x ∈ t.ins, x.sec.length ≤ 10000000) (hs : (encT t).length ≤ 400000000) : ECalls Tryz.prog 99 [TXv t, .lit (.bool true)] [] fun y H' => H' = [] ∧ y = Bs (encT t) :=
  RTPutF_ok true t ht (.inl rfl) hsec hs
set_option maxHeartbeats 4000000 in
theorem RTEncode_ok (t : Txn) (ht : t.ok) (hsec : ∀ x ∈ t.ins, x.sec.length ≤ 10000000) (hs : (encT t).length ≤ 400000000) : ECalls Tryz.prog 55 [TXv t] [] fun y H' => H' = [] ∧ y = Bs (encT t) := by
  refine ecalls k_RTEncode ?_
  simp [c_RTEncode, TXv, txC, iC]
  refine call0 (RTPut_ok t ht hsec hs) (by simp [TXv, txC, iC]) ?_
  rintro y H' ⟨rfl, rfl⟩
  refine ⟨.inl (by simp [Bs]), le_ok rfl, ?_⟩
  simp [Bs]
  exact fin [] (by decide) rfl rfl rfl ⟨rfl, rfl⟩
end Go.Proofs.YtflcfdeanneoeaaGreatDoor
namespace Go.Proofs.YtflcfdeanneoeaaGreatDoor
open Go Go.EW
set_option linter.unusedSimpArgs false
set_option linter.unusedVariables false
def gN : FV → FV
  | .sl _ [] => .lit (.slice none 0 0)
  | x => x
theorem fr_g {Φ : Nat → Prop} {w : World} {es : Nat} {ys : List (List FV)} {v : Value} (h : FR Φ w (.sl es (ys.map (·.map gN))) v) : FR Φ w (.sl es ys) v := by
  generalize hx : ys.map (·.map gN) = xs at h
  have hlen : xs.length = ys.length := by rw [← hx]; simp
  cases h with
  | emp => 
    have : ys = [] := by simpa using hx
    subst this
    exact FR.emp _ _ _
  | sl es xs b off cap vs hb h0 hl hn hcap hcell hfr =>
    rw [hlen]
    refine .sl es ys b off cap vs hb h0 ?_ (by rw [hn, hlen]) (by omega) hcell ?_
    · intro y hy
      have := hl (y.map gN) (by rw [← hx]; exact List.mem_map.2 ⟨y, hy, rfl⟩)
      simpa using this
    · intro j y u hy hu
      have e : xs.flatten = ys.flatten.map gN := by rw [← hx, List.map_flatten]
      have h1 := hfr j (gN y) u (by rw [e, List.getElem?_map, hy]; rfl) hu
      unfold gN at h1
      split at h1
      · cases h1
        exact FR.emp _ none 0
      · exact h1
theorem ecalls_nlG {P : Program} {f : FuncId} {a c : EC} {ys : List (List FV)} {rest : List EV} {H : List EO} {post : EV → List (Option EO) → Prop} (h : ECalls P f (.v (.agg [a, .fz (.sl 35 ys), c]) :: rest) H post) :
    ECalls P f (.v (.agg [a, .fz (.sl 35 (ys.map (·.map gN))), c]) :: rest) H post := by
  intro ρ Φ w vals r' ha
  refine h ρ Φ w vals r' ?_
  obtain ⟨u, us, rfl, h1, h2⟩ := ha.cons_left
  refine All2.cons ?_ h2
  obtain ⟨vs, rfl, hv⟩ := h1
  refine ⟨vs, rfl, by simpa using hv.1, ?_⟩
  intro i x y hx hy
  rcases i with _ | _ | _ | i
  · exact hv.2 0 x y hx hy
  · have := hv.2 1 _ y rfl hy
    simp at hx; subst hx
    exact fr_g this
  · exact hv.2 2 x y hx hy
  · simp at hx
theorem hf_gN (l : List UInt8) (r : List FV) : (hf l ++ r).map gN = hf l ++ r.map gN := by
  have : (hf l).map gN = hf l := by simp [hf, gN]
  rw [List.map_append, this]
end Go.Proofs.YtflcfdeanneoeaaGreatDoor
namespace Go.Proofs.YtflcfdeanneoeaaGreatDoor
open Go Go.EW
set_option linter.unusedSimpArgs false
set_option linter.unusedVariables false
def Bra.sm (b : Bra) : Prop := b.lock.length = 32 ∧ b.keys.length ≤ 1000
def Outp.sm (o : Outp) : Prop := (∀ b ∈ o.cs, b.sm) ∧ o.cs.length ≤ 100
def Inp.sm (x : Inp) : Prop := x.tx.length = 32 ∧ x.sec.length ≤ 10000
def Txn.sm (t : Txn) : Prop := (∀ x ∈ t.ins, x.sm) ∧ (∀ o ∈ t.outs, o.sm) ∧ t.ins.length ≤ 400 ∧ t.outs.length ≤ 400
theorem braB_le {b : Bra} (h : b.sm) : (braB b).length ≤ 9100 := by
  have h1 := uB_len (b.keys.length : Int)
  have h2 := usB_len b.keys
  have h3 := uB_len b.af
  have h4 := uB_len b.ol
  obtain ⟨q1, q2⟩ := h
  simp only [braB, List.length_append]
  omega
theorem cndB_le {l : List Bra} (h : ∀ b ∈ l, b.sm) (hn : l.length ≤ 100) : (cndB l).length ≤ 920000 := by
  have h1 := uB_len (l.length : Int)
  have h2 : (brsB l).length ≤ 9100 * l.length := flat_len fun b hb => braB_le (h b hb)
  simp only [cndB, List.length_append]
  omega
theorem oupB_le {o : Outp} (h : o.sm) : (oupB o).length ≤ 930000 := by
  have h1 := uB_len o.am
  have h2 := cndB_le h.1 h.2
  simp only [oupB, List.length_append]
  omega
theorem inpB_le {x : Inp} (h : x.sm) : (inpB x).length ≤ 20100 := by
  have h1 := uB_len x.n
  have h2 := uB_len x.br
  have h3 := stuff_len x.sec
  obtain ⟨q1, q2⟩ := h
  simp only [inpB, bytesB, List.length_append, List.length_cons, List.length_nil]
  omega
theorem encT_le {t : Txn} (h : t.sm) : (encT t).length ≤ 400000000 := by
  obtain ⟨q1, q2, q3, q4⟩ := h
  have h1 := uB_len t.lk
  have h2 := uB_len (t.ins.length : Int)
  have h3 := uB_len (t.outs.length : Int)
  have h4 : (insB t.ins).length ≤ 20100 * t.ins.length := flat_len fun x hx => inpB_le (q1 x hx)
  have h5 : (ousB t.outs).length ≤ 930000 * t.outs.length := flat_len fun x hx => oupB_le (q2 x hx)
  simp only [encT, mdB, hdB, List.length_append]
  omega
theorem sm_sec {t : Txn} (h : t.sm) : ∀ x ∈ t.ins, x.sec.length ≤ 10000000 := fun x hx => by have := (h.1 x hx).2; omega
theorem zTx_okS : zTx.ok ∧ zTx.sm := by simp [zTx, Txn.ok, Txn.sm, i64]
theorem donT_ok {t : Txn} (h : t.ok ∧ t.sm) : (donT t).1.ok ∧ (donT t).1.sm := by
  unfold donT
  split
  · exact zTx_okS
  · exact h
end Go.Proofs.YtflcfdeanneoeaaGreatDoor
namespace Go.Proofs.YtflcfdeanneoeaaGreatDoor
open Go Go.EW
set_option linter.unusedSimpArgs false
set_option linter.unusedVariables false
@[simp] def l_same_1 (_ : Unit) : List EOp := [xQ 0 4 (.box 63 (.t 0)), xQ 1 6 (.box 69 (.t 2)), xQ 2 8 (.mov (.k (.bool false)))]
@[simp] def b_same_2 (_ : Unit) : EB := reg0 (hid l_same_1) 3
@[simp] def l_same_5 (_ : Unit) : List EOp := [xQ 12 21 (.pick (.t 13) (.t 20) (.k (.bool false))), xM 13 8 21]
@[simp] def l_same_4 (_ : Unit) : List EOp := xG 8 17 13 true (.lda 3 (.t 6)) :: ⟨6, (some 15), (some (13, true)), (.call 54 [(.t 14)]), [8]⟩ :: xG 7 16 13 true (.b2s (.t 15)) :: ⟨9, (some 18), (some (13, true)), (.call 55 [(.t 17)]), [7]⟩ :: xG 10 19 13 true (.b2s (.t 18)) :: xG 11 20 13 true (.bin .eql (.t 16) (.t 19)) :: hid l_same_5
@[simp] def l_same_3 (_ : Unit) : List EOp := xM 0 9 1 :: xM 2 11 3 :: ⟨1, (some 10), none, (.call 17 [(.t 9)]), [2]⟩ :: xQ 3 12 (.bin .eql (.t 10) (.t 11)) :: xM 4 13 12 :: xG 5 14 13 true (.lda 3 (.t 4)) :: hid l_same_4
@[simp] def b_same_6 (_ : Unit) : EB := reg1 (hid l_same_3) 14
@[simp] def b_same_7 (_ : Unit) : EB := .seq (hid b_same_6) .ret
@[simp] def b_same_8 (_ : Unit) : EB := .seq (hid b_same_2) (hid b_same_7)
def c_same : EB × List QOp × Nat := ((hid b_same_8), [(.mov (.t 8))], 22)
theorem k_same : cfun Tryz.prog 22 = some c_same := by kernel_rfl
set_option maxHeartbeats 4000000 in
theorem same_ok (t : Txn) (e : Nat) (ht : t.ok) (hs : t.sm) : ECalls Tryz.prog 22 [TXv t, .lit (errV e), TXv t, I .i64 e] [] fun y H' => H' = [] ∧ y = .lit (.bool true) := by
  have e1 := TEncode_ok t ht (sm_sec hs) (encT_le hs)
  have e2 := RTEncode_ok t ht (sm_sec hs) (encT_le hs)
  refine ecalls k_same ?_
  simp [c_same, TXv, txC, iC, I, -errV_0]
  refine call0 (num_e e) (by simp) ?_
  rintro z H' ⟨rfl, rfl⟩
  refine ⟨.inl (by simp [I]), le_ok rfl, ?_⟩
  simp [I, TXv, txC, iC, -errV_0]
  refine call0 e1 (by simp [TXv, txC, iC]) ?_
  rintro z H' ⟨rfl, rfl⟩
  refine ⟨.inl (by simp [Bs]), le_ok rfl, ?_⟩
  simp [Bs, txC, iC, -errV_0]
  refine call0 e2 (by simp [TXv, txC, iC]) ?_
  rintro z H' ⟨rfl, rfl⟩
  refine ⟨.inl (by simp [Bs]), le_ok rfl, ?_⟩
  simp [Bs, txC, iC, -errV_0]
  exact fin [] (by decide) rfl rfl rfl ⟨rfl, rfl⟩
end Go.Proofs.YtflcfdeanneoeaaGreatDoor
namespace Go.Proofs.YtflcfdeanneoeaaGreatDoor
open Go Go.EW
set_option linter.unusedSimpArgs false
set_option linter.unusedVariables false
section
variable {l : List UInt8} (h : l.length = 32)
include h
theorem tk33x (a : EC) (r : List EC) : List.take 33 (hc l ++ a :: r) = hc l ++ [a] := by
  have e : (hc l).length = 32 := by rw [hc_len, h]
  rw [List.take_append, List.take_of_length_le (by omega), e]; rfl
theorem tk34x (a b : EC) (r : List EC) : List.take 34 (hc l ++ a :: b :: r) = hc l ++ [a, b] := by
  have e : (hc l).length = 32 := by rw [hc_len, h]
  rw [List.take_append, List.take_of_length_le (by omega), e]; rfl
theorem dr34x (a b : EC) (r : List EC) : List.drop 34 (hc l ++ a :: b :: r) = r := by
  have e : (hc l).length = 32 := by rw [hc_len, h]
  rw [List.drop_append, List.drop_of_length_le (by omega), e]; rfl
theorem dr35x (a b c : EC) (r : List EC) : List.drop 35 (hc l ++ a :: b :: c :: r) = r := by
  have e : (hc l).length = 32 := by rw [hc_len, h]
  rw [List.drop_append, List.drop_of_length_le (by omega), e]; rfl
end
theorem drop33z (a : EC) : List.drop 33 (hc hz ++ [a]) = [] := by rw [List.drop_eq_nil_iff]; simp [hz]
theorem ecalls_thaw2 {P : Program} {f : FuncId} {args args' : List EV} {ty es ty2 es2 : Nat} {xs ys : List (List FV)} {post : EV → Prop} (h : ECalls P f args' [] fun y H' => H' = [] ∧ post y)
    (hc : conArgs (fun _ => none) [] ((args.map (fzEV 0 es xs)).map (fzEV 1 es2 ys)) = some args') : ECalls P f args [.row ty es xs, .row ty2 es2 ys] fun y H' => H' = [none, none] ∧ post y := by
  intro ρ Φ w vals r ha
  have hw1 := weak_frz (m := 2) (n := 2) (T := args) (H := ofL [.row ty es xs, .row ty2 es2 ys]) (o := 0) (ty := ty) (es := es) (xs := xs) rfl
  have hw2 := weak_frz (m := 2) (n := 2) (T := args.map (fzEV 0 es xs)) (H := fun i => if i = 0 then none else (ofL [EO.row ty es xs, .row ty2 es2 ys] i).map (fzEO 0 es xs)) (o := 1) (ty := ty2) (es := es2) (xs := ys) rfl
  obtain ⟨⟨X, hX, r1, a1, _, hU⟩, _⟩ := (hw1.trans hw2) w ρ Φ { tmps := vals.toArray, defers := [] } w ⟨⟨⟨fun o => o < 2, ρ, Φ, w⟩, rfl, r, by simpa using ha, rfl, fun i hi => hi⟩, Nat.le_refl _⟩
  obtain ⟨XU, Xρ, XΦ, Xw⟩ := X
  obtain rfl : Xw = w := hX
  have hH : (fun i => if i = 1 then none else ((fun i => if i = 0 then none else (ofL [EO.row ty es xs, .row ty2 es2 ys] i).map (fzEO 0 es xs)) i).map (fzEO 1 es2 ys)) = fun _ => none := by
    funext i
    rcases i with _ | _ | i <;> simp [ofL]
  simp only at r1
  rw [hH] at r1
  have ra : Rel Xw 0 Xρ XΦ (ofL []) ⟨fun o => o < 0, Xρ, XΦ, Xw⟩ := by
    refine ⟨rfl, rfl, rfl, Nat.le_refl _, fun _ _ _ => rfl, fun _ _ => rfl, ?_, ?_, ?_, ?_, r1.fro, fun b hb => .inl hb, r1.glob⟩
    · intro o x hx; simp [ofL] at hx
    · intro o o' x x' b hx; simp [ofL] at hx
    · intro o x b hx; simp [ofL] at hx
    · intro o x b hx; simp [ofL] at hx
  have hi : Into ⟨XU, Xρ, XΦ, Xw⟩ ⟨fun o => o < 0, Xρ, XΦ, Xw⟩ [] := by
    constructor <;> simp
  have a2 := conArgs_spec r1 hi hc (fun o _ y b hy => by simp at hy) (by simpa using a1)
  refine (h Xρ XΦ Xw vals ra a2).mono ?_
  rintro e w' ⟨y, H', v, ρ', Φ', he, ⟨rfl, hp⟩, hlen, hv, hr⟩
  have hl : Later ⟨fun o => o < 0, ρ', Φ', w'⟩ ⟨fun o => o < 2, ρ, Φ', w'⟩ := ⟨fun o ho => absurd ho (Nat.not_lt_zero _), fun o ho => absurd ho (Nat.not_lt_zero _), fun _ h => h, fun _ _ => rfl⟩
  refine ⟨y, [none, none], v, ρ, Φ', he, ⟨rfl, hp⟩, Nat.le_refl _, hl.vv hv, ?_⟩
  refine ⟨hr.os, hr.tape, hr.output, hr.size, ?_, fun _ _ => rfl, ?_, ?_, ?_, ?_, hr.fro, ?_, hr.glob⟩
  · intro b hb1 hn
    exact hr.block b hb1 fun o ho => absurd ho (Nat.not_lt_zero _)
  · intro o x hx; rcases o with _ | _ | o <;> simp [ofO] at hx
  · intro o o' x x' b hx; rcases o with _ | _ | o <;> simp [ofO] at hx
  · intro o x b hx; rcases o with _ | _ | o <;> simp [ofO] at hx
  · intro o x b hx; rcases o with _ | _ | o <;> simp [ofO] at hx
  · intro b hb1
    rcases hr.phi b hb1 with h3 | h3 | ⟨o', h3, h4⟩
    · exact r1.phi b h3
    · exact .inr (.inl h3)
    · exact absurd h3 (Nat.not_lt_zero _)
end Go.Proofs.YtflcfdeanneoeaaGreatDoor
namespace Go.Proofs.YtflcfdeanneoeaaGreatDoor
open Go Go.EW
set_option linter.unusedSimpArgs false
set_option linter.unusedVariables false
theorem outsE_mem : ∀ {l : List Outp}, outsE l = 0 → ∀ o ∈ l, cnE o.cs = 0
  | [], _, o, ho => by simp at ho
  | x :: r, h, o, ho => by
    unfold outsE at h
    split at h
    · rename_i c; exact absurd h c
    rename_i c
    rcases List.mem_cons.1 ho with rfl | ho
    · have c := Classical.not_not.1 c
      unfold ouE at c
      split at c
      · simp at c
      split at c
      · simp at c
      exact c
    · exact outsE_mem h o ho
theorem sm_of_chk {t : Txn} (ht : t.ok) (h : chkT t = 0) : t.sm := by
  obtain ⟨h1, h2, h3, h4, h5⟩ := ht
  unfold chkT at h
  split at h
  · simp at h
  rename_i c1
  split at h
  · simp at h
  split at h
  · rename_i c; exact absurd h c
  rename_i c2
  have c2 := Classical.not_not.1 c2
  have hi : t.ins.all inM = true := by
    cases q : t.ins.all inM
    · exact absurd (.inr (.inr (.inr (.inr q)))) c1
    · rfl
  have hn1 : t.ins.length ≤ 64 := by omega
  have hn2 : t.outs.length ≤ 64 := by omega
  refine ⟨?_, ?_, by omega, by omega⟩
  · intro x hx
    have := List.all_eq_true.1 hi x hx
    simp only [inM, decide_eq_true_eq] at this
    exact ⟨(h2 x hx).1, by omega⟩
  · intro o ho
    have q := outsE_mem c2 o ho
    unfold cnE at q
    split at q
    rotate_left
    · simp at q
    rename_i c
    refine ⟨?_, by omega⟩
    intro b hb
    have := List.all_eq_true.1 c.2 b hb
    simp only [brM, Bool.and_eq_true] at this
    obtain ⟨_, r2, _⟩ := keysS_ris this.1
    refine ⟨((h3 o ho).2.1 b hb).2.1, ?_⟩
    rcases r2 with r2 | r2
    · omega
    · rw [r2]; simp
theorem donT_okS {t : Txn} (h : t.ok) : (donT t).1.ok ∧ (donT t).1.sm := by
  unfold donT
  split
  · exact zTx_okS
  · rename_i c; exact ⟨h, sm_of_chk h (Classical.not_not.1 c)⟩
def allP (a b : Int) : List Bra := if a = b then allB [a] else allB [a, b]
def fuI (l : List Inp) : List Inp := l.map fun x => ⟨x.tx, x.n, 0, []⟩
def fndT (t : Txn) (a b am : Int) : Txn := ⟨0, fuI t.ins, ⟨am, allP a b⟩ :: t.outs⟩
theorem insN_mem {a b x : Int} (h : x ∈ insN [a, b]) : x = a ∨ x = b := by
  rw [ins_two] at h
  split at h
  · simp at h; exact h.symm
  · simpa using h
theorem allP_ok {a b : Int} (ha : i64 a) (hb : i64 b) : (∀ x ∈ allP a b, x.ok) ∧ (allP a b).length = 1 := by
  have hz' : hz.length = 32 := rfl
  unfold allP
  split
  · refine ⟨?_, rfl⟩
    intro x hx
    simp [allB] at hx
    subst hx
    refine ⟨?_, hz', by simp [i64], by simp [i64], by simp [insN_len]⟩
    intro k hk
    rw [(keys_one _).2] at hk
    simp at hk
    subst hk
    exact ha
  · refine ⟨?_, rfl⟩
    intro x hx
    simp [allB] at hx
    subst hx
    refine ⟨?_, hz', by simp [i64], by simp [i64], by simp [insN_len]⟩
    intro k hk
    rcases insN_mem hk with rfl | rfl
    · exact ha
    · exact hb
theorem fndT_ok {t : Txn} {a b am : Int} (ht : t.ok) (h1 : t.outs.length ≤ 10000000) (ha : i64 a) (hb : i64 b) (hm : i64 am) : (fndT t a b am).ok := by
  obtain ⟨q1, q2, q3, q4, q5⟩ := ht
  obtain ⟨r1, r2⟩ := allP_ok ha hb
  refine ⟨by simp [fndT, i64], ?_, ?_, by simp [fndT, fuI]; omega, by simp [fndT]; omega⟩
  · intro x hx
    obtain ⟨y, hy, rfl⟩ := List.mem_map.1 hx
    obtain ⟨s1, s2, s3, s4⟩ := q2 y hy
    exact ⟨s1, s2, by simp [i64], by simp⟩
  · intro o ho
    rcases List.mem_cons.1 ho with rfl | ho
    · exact ⟨hm, r1, by show (allP a b).length ≤ _; omega⟩
    · exact q3 o ho
end Go.Proofs.YtflcfdeanneoeaaGreatDoor
namespace Go.Proofs.YtflcfdeanneoeaaGreatDoor
open Go Go.EW
set_option linter.unusedSimpArgs false
def intF (n : Int) : List FV := [.lit (.int .i64 n)]
theorem opn_ints : Opn BB Tryz.prog 111 (fun l : List Int => [FV.sl 1 (l.map intF)]) (fun l => (∀ x ∈ l, i64 x) ∧ l.length ≤ maxLen) (fun l => l.length + 1) :=
  (opn_slice bok (e := 3) (es := 1) (by kernel_rfl) (by kernel_rfl) (by omega) opn_i64).map id (fun _ _ => rfl) (fun _ h => h) (fun l _ => by rw [sumB_one]; exact Nat.le_refl _)
theorem opn_two : Opn BB Tryz.prog 26 (fun p : Int × Int => [FV.lit (.int .i64 p.1), .lit (.int .i64 p.2)]) (fun p => i64 p.1 ∧ i64 p.2) (fun _ => 1) :=
  (opn_array bok (e := 3) (es := 1) (n := 2) (by kernel_rfl) (by kernel_rfl) (by kernel_rfl) opn_i64).map (fun l => (l[0]?.getD 0, l[1]?.getD 0)) (by
    rintro l ⟨_, h⟩
    match l, h with
    | [a, b], _ => simp) (by
    rintro l ⟨h1, h⟩
    match l, h, h1 with
    | [a, b], _, h1 => exact ⟨h1 a (by simp), h1 b (by simp)⟩) (fun _ _ => by omega)
theorem opn_pay : Opn BB Tryz.prog 127 payF Pay.ok (fun _ => 1) :=
  (opn_struct (tot := 36) bok Tryz.underlying127 (by kernel_rfl)
    (opnFs_cons bok (n := 1) (tot := 35) opn_i64 rfl (by kernel_rfl) (opnFs_cons bok (n := 1) (tot := 34) opn_i64 rfl (by kernel_rfl)
      (opnFs_cons bok (n := 1) (tot := 33) opn_i64 rfl (by kernel_rfl) (opnFs_cons bok (n := 1) (tot := 32) opn_i64 rfl (by kernel_rfl)
      (opnFs_cons bok (n := 32) (tot := 0) opn_hash rfl (by kernel_rfl) opnFs_nil)))))).map
    (fun p => (⟨p.1, p.2.1, p.2.2.1, p.2.2.2.1, p.2.2.2.2.1⟩ : Pay)) (by rintro ⟨a, b, c, d, e, u⟩ _; simp [payF]) (by rintro ⟨a, b, c, d, e, u⟩ h; exact ⟨h.1, h.2.1, h.2.2.1, h.2.2.2.1, h.2.2.2.2.1⟩) (by rintro ⟨a, b, c, d, e, u⟩ _; simp)
theorem opn_hol : Opn BB Tryz.prog 113 holF (fun h => i64 h.id ∧ i64 h.am ∧ (∀ k ∈ h.keys, i64 k)) (fun h => h.keys.length + 1) :=
  (opn_struct (tot := 3) bok Tryz.underlying113 (by kernel_rfl)
    (opnFs_cons bok (n := 1) (tot := 2) opn_i64 rfl (by kernel_rfl) (opnFs_cons bok (n := 1) (tot := 1) opn_i64 rfl (by kernel_rfl)
      (opnFs_cons bok (n := 1) (tot := 0) opn_ints rfl (by kernel_rfl) opnFs_nil)))).map
    (fun p => (⟨p.1, p.2.1, p.2.2.1⟩ : Hol)) (by rintro ⟨a, b, c, u⟩ _; simp [holF, intv, intF]) (by rintro ⟨a, b, c, u⟩ h; exact ⟨h.1, h.2.1, h.2.2.1.1⟩) (by rintro ⟨a, b, c, u⟩ _; simp; omega)
theorem opn_pays : Opn BB Tryz.prog 29 (fun l : List Pay => [FV.sl 36 (payv l)]) (fun l => ∀ x ∈ l, x.ok) (fun l => l.length) :=
  (opn_slice bok (by kernel_rfl) (by kernel_rfl) (by omega) opn_pay).map id (fun _ _ => rfl) (fun _ h => h.1) (fun l _ => by rw [sumB_one]; simp)
theorem opn_hols : Opn BB Tryz.prog 30 (fun l : List Hol => [FV.sl 3 (holv l)]) (fun l => ∀ h ∈ l, i64 h.id ∧ i64 h.am ∧ (∀ k ∈ h.keys, i64 k)) (fun l => sumB (fun h : Hol => h.keys.length + 1) l) :=
  (opn_slice bok (by kernel_rfl) (by kernel_rfl) (by omega) opn_hol).map id (fun _ _ => rfl) (fun _ h => h.1) (fun l _ => by simp)
def Sta.ok0 (s : Sta) : Prop := i64 s.num ∧ i64 s.h0 ∧ i64 s.h1 ∧ (∀ p ∈ s.pays, p.ok) ∧ ∀ h ∈ s.holds, i64 h.id ∧ i64 h.am ∧ (∀ k ∈ h.keys, i64 k)
def staF (s : Sta) : List FV := [.lit (.int .i64 s.num), .lit (.int .i64 s.h0), .lit (.int .i64 s.h1), .sl 36 (payv s.pays), .sl 3 (holv s.holds)]
def staB (s : Sta) : Nat := s.pays.length + sumB (fun h : Hol => h.keys.length + 1) s.holds
theorem opn_sta : Opn BB Tryz.prog 32 staF Sta.ok0 staB :=
  (opn_struct (tot := 5) bok Tryz.underlying32 (by kernel_rfl)
    (opnFs_cons bok (n := 1) (tot := 4) opn_i64 rfl (by kernel_rfl) (opnFs_cons bok (n := 2) (tot := 2) opn_two rfl (by kernel_rfl)
      (opnFs_cons bok (n := 1) (tot := 1) opn_pays rfl (by kernel_rfl) (opnFs_cons bok (n := 1) (tot := 0) opn_hols rfl (by kernel_rfl) opnFs_nil))))).map
    (fun p => (⟨p.1, p.2.1.1, p.2.1.2, p.2.2.1, p.2.2.2.1⟩ : Sta)) (by rintro ⟨a, b, c, d, u⟩ _; simp [staF]) (by rintro ⟨a, b, c, d, u⟩ h; exact ⟨h.1, h.2.1.1, h.2.1.2, h.2.2.1, h.2.2.2.1⟩) (by rintro ⟨a, b, c, d, u⟩ _; simp [staB]; omega)
theorem sta_ok {s : Sta} (h : s.ok0) (hb : staB s ≤ 1048576) : s.ok := by
  have key : ∀ (l : List Hol), l.length ≤ sumB (fun h : Hol => h.keys.length + 1) l ∧ ∀ x ∈ l, x.keys.length ≤ sumB (fun h : Hol => h.keys.length + 1) l := by
    intro l
    induction l with
    | nil => simp
    | cons y r ih =>
      simp only [sumB, List.length_cons]
      refine ⟨by omega, ?_⟩
      intro x hx
      rcases List.mem_cons.1 hx with rfl | hx
      · omega
      · have := ih.2 x hx; omega
  obtain ⟨k1, k2⟩ := key s.holds
  unfold staB at hb
  refine ⟨h.1, h.2.1, h.2.2.1, h.2.2.2.1, fun x hx => ?_, by omega, by omega⟩
  have q := h.2.2.2.2 x hx
  have := k2 x hx
  exact ⟨q.1, q.2.1, q.2.2, by omega⟩
end Go.Proofs.YtflcfdeanneoeaaGreatDoor
namespace Go.Proofs.YtflcfdeanneoeaaGreatDoor
open Go Go.EW
set_option linter.unusedSimpArgs false
set_option linter.unusedVariables false
theorem opn_twoV : Opn BB Tryz.prog 26 (fun p : Int × Int => [FV.lit (.int .i64 p.1), .lit (.int .i64 p.2)]) (fun p => i64 p.1 ∧ i64 p.2) (fun _ => 1) :=
  (opn_array bok (e := 3) (es := 1) (n := 2) (by kernel_rfl) (by kernel_rfl) (by kernel_rfl) opn_i64).map (fun l => (l[0]?.getD 0, l[1]?.getD 0)) (by
    rintro l ⟨_, h⟩
    match l, h with
    | [a, b], _ => simp) (by
    rintro l ⟨h1, h⟩
    match l, h, h1 with
    | [a, b], _, h1 => exact ⟨h1 a (by simp), h1 b (by simp)⟩) (fun _ _ => by omega)
theorem opn_outV : Opn BB Tryz.prog 25 (fun p : List UInt8 × Int => hf p.1 ++ [FV.lit (.int .i64 p.2)]) (fun p => p.1.length = 32 ∧ i64 p.2) (fun _ => 1) :=
  (opn_struct (tot := 33) bok Tryz.underlying25 (by kernel_rfl)
    (opnFs_cons bok (n := 32) (tot := 1) opn_hash rfl (by kernel_rfl) (opnFs_cons bok (n := 1) (tot := 0) opn_i64 rfl (by kernel_rfl) opnFs_nil))).map
    (fun p => (p.1, p.2.1)) (by rintro ⟨a, b, u⟩ _; simp) (by rintro ⟨a, b, u⟩ h; exact ⟨h.1, h.2.1⟩) (by rintro ⟨a, b, u⟩ _; simp)
theorem opn_prm : Opn BB Tryz.prog 28 prmF Prm.ok (fun _ => 1) :=
  (opn_struct (tot := 38) bok Tryz.underlying28 (by kernel_rfl)
    (opnFs_cons bok (n := 33) (tot := 5) opn_outV rfl (by kernel_rfl) (opnFs_cons bok (n := 1) (tot := 4) opn_i64 rfl (by kernel_rfl)
      (opnFs_cons bok (n := 2) (tot := 2) opn_twoV rfl (by kernel_rfl) (opnFs_cons bok (n := 1) (tot := 1) opn_i64 rfl (by kernel_rfl)
      (opnFs_cons bok (n := 1) (tot := 0) opn_i64 rfl (by kernel_rfl) opnFs_nil)))))).map
    (fun p => (⟨p.1.1, p.1.2, p.2.1, p.2.2.1.1, p.2.2.1.2, p.2.2.2.1, p.2.2.2.2.1⟩ : Prm)) (by rintro ⟨⟨a, a'⟩, b, ⟨c, c'⟩, d, e, u⟩ _; simp [prmF, iF]) (by rintro ⟨⟨a, a'⟩, b, ⟨c, c'⟩, d, e, u⟩ h; exact ⟨h.1.1, h.1.2, h.2.1, h.2.2.1.1, h.2.2.1.2, h.2.2.2.1, h.2.2.2.2.1⟩) (by rintro ⟨⟨a, a'⟩, b, ⟨c, c'⟩, d, e, u⟩ _; simp)
def zPrmV : Value := .agg (Array.replicate 32 (.int .u8 0) ++ #[.int .i64 0, .int .i64 0, .int .i64 0, .int .i64 0, .int .i64 0, .int .i64 0])
def zPrmD {H : Type} : DataW H := .agg [.agg [.agg (List.replicate 32 (.lit (.int .u8 0))), .lit (.int .i64 0)], .lit (.int .i64 0), .agg [.lit (.int .i64 0), .lit (.int .i64 0)], .lit (.int .i64 0), .lit (.int .i64 0)]
end Go.Proofs.YtflcfdeanneoeaaGreatDoor
namespace Go.Proofs.YtflcfdeanneoeaaGreatDoor
open Go Go.EW
set_option linter.unusedSimpArgs false
set_option linter.unusedVariables false
def Bra.ok0 (b : Bra) : Prop := (∀ k ∈ b.keys, i64 k) ∧ b.lock.length = 32 ∧ i64 b.af ∧ i64 b.ol
def braW (b : Bra) : Nat := b.keys.length + 1
def Outp.ok0 (o : Outp) : Prop := i64 o.am ∧ ∀ b ∈ o.cs, b.ok0
def outW (o : Outp) : Nat := sumB braW o.cs + 1
def Inp.ok0 (x : Inp) : Prop := x.tx.length = 32 ∧ i64 x.n ∧ i64 x.br
def inpW (x : Inp) : Nat := x.sec.length + 1
def Txn.ok0 (t : Txn) : Prop := i64 t.lk ∧ (∀ x ∈ t.ins, x.ok0) ∧ ∀ o ∈ t.outs, o.ok0
def txW (t : Txn) : Nat := sumB inpW t.ins + sumB outW t.outs
def txF (t : Txn) : List FV := [iF t.lk, .sl 35 (inpv t.ins), .sl 2 (outv t.outs)]
theorem txF_fz (t : Txn) : (txF t).map EC.fz = txC t := by simp [txF, txC, iF, iC]
theorem opn_bra : Opn BB Tryz.prog 150 braF Bra.ok0 braW :=
  (opn_struct (tot := 35) bok Tryz.underlying150 (by kernel_rfl)
    (opnFs_cons bok (n := 1) (tot := 34) opn_ints rfl (by kernel_rfl) (opnFs_cons bok (n := 32) (tot := 2) opn_hash rfl (by kernel_rfl)
      (opnFs_cons bok (n := 1) (tot := 1) opn_i64 rfl (by kernel_rfl) (opnFs_cons bok (n := 1) (tot := 0) opn_i64 rfl (by kernel_rfl) opnFs_nil))))).map
    (fun p => (⟨p.1, p.2.1, p.2.2.1, p.2.2.2.1⟩ : Bra)) (by rintro ⟨a, b, c, d, u⟩ _; simp [braF, intv, intF, iF]) (by rintro ⟨a, b, c, d, u⟩ h; exact ⟨h.1.1, h.2.1, h.2.2.1, h.2.2.2.1⟩) (by rintro ⟨a, b, c, d, u⟩ _; simp [braW]; try omega)
theorem opn_bras : Opn BB Tryz.prog 143 (fun l : List Bra => [FV.sl 35 (brav l)]) (fun l => ∀ b ∈ l, b.ok0) (fun l => sumB braW l) :=
  (opn_slice bok (by kernel_rfl) (by kernel_rfl) (by omega) opn_bra).map id (fun _ _ => rfl) (fun _ h => h.1) (fun l _ => by simp)
theorem opn_cnd : Opn BB Tryz.prog 145 (fun l : List Bra => [FV.sl 35 (brav l)]) (fun l => ∀ b ∈ l, b.ok0) (fun l => sumB braW l) :=
  (opn_struct (tot := 1) bok Tryz.underlying145 (by kernel_rfl) (opnFs_cons bok (n := 1) (tot := 0) opn_bras rfl (by kernel_rfl) opnFs_nil)).map
    (fun p => p.1) (by rintro ⟨a, u⟩ _; simp) (by rintro ⟨a, u⟩ h; exact h.1) (by rintro ⟨a, u⟩ _; simp)
theorem opn_oup : Opn BB Tryz.prog 148 outF Outp.ok0 outW :=
  (opn_struct (tot := 2) bok Tryz.underlying148 (by kernel_rfl)
    (opnFs_cons bok (n := 1) (tot := 1) opn_i64 rfl (by kernel_rfl) (opnFs_cons bok (n := 1) (tot := 0) opn_cnd rfl (by kernel_rfl) opnFs_nil))).map
    (fun p => (⟨p.1, p.2.1⟩ : Outp)) (by rintro ⟨a, b, u⟩ _; simp [outF, iF]) (by rintro ⟨a, b, u⟩ h; exact ⟨h.1, h.2.1⟩) (by rintro ⟨a, b, u⟩ _; simp [outW]; try omega)
theorem opn_inp : Opn BB Tryz.prog 83 inpF Inp.ok0 inpW :=
  (opn_struct (tot := 35) bok Tryz.underlying83 (by kernel_rfl)
    (opnFs_cons bok (n := 33) (tot := 2) opn_outV rfl (by kernel_rfl) (opnFs_cons bok (n := 1) (tot := 1) opn_i64 rfl (by kernel_rfl)
      (opnFs_cons bok (n := 1) (tot := 0) opn_bytes rfl (by kernel_rfl) opnFs_nil)))).map
    (fun p => (⟨p.1.1, p.1.2, p.2.1, p.2.2.1⟩ : Inp)) (by rintro ⟨⟨a, a'⟩, b, c, u⟩ _; simp [inpF, iF]) (by rintro ⟨⟨a, a'⟩, b, c, u⟩ h; exact ⟨h.1.1, h.1.2, h.2.1⟩) (by rintro ⟨⟨a, a'⟩, b, c, u⟩ _; simp [inpW]; try omega)
theorem opn_inps : Opn BB Tryz.prog 66 (fun l : List Inp => [FV.sl 35 (inpv l)]) (fun l => ∀ b ∈ l, b.ok0) (fun l => sumB inpW l) :=
  (opn_slice bok (by kernel_rfl) (by kernel_rfl) (by omega) opn_inp).map id (fun _ _ => rfl) (fun _ h => h.1) (fun l _ => by simp)
theorem opn_oups : Opn BB Tryz.prog 67 (fun l : List Outp => [FV.sl 2 (outv l)]) (fun l => ∀ b ∈ l, b.ok0) (fun l => sumB outW l) :=
  (opn_slice bok (by kernel_rfl) (by kernel_rfl) (by omega) opn_oup).map id (fun _ _ => rfl) (fun _ h => h.1) (fun l _ => by simp)
theorem opn_txn : Opn BB Tryz.prog 69 txF Txn.ok0 txW :=
  (opn_struct (tot := 3) bok Tryz.underlying69 (by kernel_rfl)
    (opnFs_cons bok (n := 1) (tot := 2) opn_i64 rfl (by kernel_rfl) (opnFs_cons bok (n := 1) (tot := 1) opn_inps rfl (by kernel_rfl)
      (opnFs_cons bok (n := 1) (tot := 0) opn_oups rfl (by kernel_rfl) opnFs_nil)))).map
    (fun p => (⟨p.1, p.2.1, p.2.2.1⟩ : Txn)) (by rintro ⟨a, b, c, u⟩ _; simp [txF, iF]) (by rintro ⟨a, b, c, u⟩ h; exact ⟨h.1, h.2.1, h.2.2.1⟩) (by rintro ⟨a, b, c, u⟩ _; simp [txW]; try omega)
theorem sumB_ge {α : Type} {w : α → Nat} (hw : ∀ a, 1 ≤ w a) : ∀ l : List α, l.length ≤ sumB w l ∧ ∀ x ∈ l, w x ≤ sumB w l
  | [] => by simp
  | y :: r => by
    obtain ⟨h1, h2⟩ := sumB_ge hw r
    have := hw y
    simp only [sumB, List.length_cons]
    refine ⟨by omega, ?_⟩
    intro x hx
    rcases List.mem_cons.1 hx with rfl | hx
    · omega
    · have := h2 x hx; omega
def Txn.bk (t : Txn) : Prop := t.ok ∧ t.ins.length ≤ 1048576 ∧ t.outs.length ≤ 1048576 ∧ (∀ x ∈ t.ins, x.sec.length ≤ 1048576) ∧ ∀ o ∈ t.outs, o.cs.length ≤ 1048576 ∧ ∀ b ∈ o.cs, b.keys.length ≤ 1048576
theorem txn_bk {t : Txn} (h : t.ok0) (hb : txW t ≤ 1048576) : t.bk := by
  obtain ⟨h1, h2, h3⟩ := h
  obtain ⟨a1, a2⟩ := sumB_ge (w := inpW) (fun _ => by unfold inpW; omega) t.ins
  obtain ⟨b1, b2⟩ := sumB_ge (w := outW) (fun _ => by unfold outW; omega) t.outs
  unfold txW at hb
  have hi : ∀ x ∈ t.ins, x.sec.length ≤ 1048576 := fun x hx => by have := a2 x hx; have e : inpW x = x.sec.length + 1 := rfl; omega
  have ho : ∀ o ∈ t.outs, o.cs.length ≤ 1048576 ∧ ∀ b ∈ o.cs, b.keys.length ≤ 1048576 := fun o ho => by
    have q := b2 o ho
    obtain ⟨c1, c2⟩ := sumB_ge (w := braW) (fun _ => by unfold braW; omega) o.cs
    have e : outW o = sumB braW o.cs + 1 := rfl
    exact ⟨by omega, fun b hb => by have := c2 b hb; have e : braW b = b.keys.length + 1 := rfl; omega⟩
  refine ⟨⟨h1, ?_, ?_, by omega, by omega⟩, by omega, by omega, hi, ho⟩
  · intro x hx
    obtain ⟨q1, q2, q3⟩ := h2 x hx
    have := hi x hx
    exact ⟨q1, q2, q3, by omega⟩
  · intro o hm
    obtain ⟨q1, q2⟩ := h3 o hm
    obtain ⟨r1, r2⟩ := ho o hm
    refine ⟨q1, ?_, by omega⟩
    intro b hb
    obtain ⟨s1, s2, s3, s4⟩ := q2 b hb
    have := r2 b hb
    exact ⟨s1, s2, s3, s4, by omega⟩
end Go.Proofs.YtflcfdeanneoeaaGreatDoor
