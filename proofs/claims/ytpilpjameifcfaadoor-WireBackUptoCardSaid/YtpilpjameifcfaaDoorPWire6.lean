import Derived.Test.YtpilpjameifcfaaDoorPWire5
namespace Go.Proofs.YtpilpjameifcfaaDoor
open Go Go.EW
set_option linter.unusedSimpArgs false
set_option linter.unusedVariables false

@[simp] def l_WDecode_1 (_ : Unit) : List EOp := [⟨0, (some 2), none, (.q (.alloc 55 (([(.int .i64 0), (.int .i64 0), (.int .i64 0), (.int .i64 0), (.int .i64 0), (.int .i64 0), (.int .i64 0), (.int .i64 0), (.int .i64 0)] : List Value) ++ zU8 ++ (([(.slice none 0 0)] : List Value) ++ zU8 ++ [(.slice none 0 0)])))), []⟩, ⟨1, (some 3), none, (.q (.mov (.k .nilIface))), []⟩]
@[simp] def b_WDecode_2 (_ : Unit) : EB := reg0 (hid l_WDecode_1) 2
@[simp] def l_WDecode_3 (_ : Unit) : List EOp := [⟨0, (some 8), none, (.q (.mov (.t 0))), []⟩, ⟨1, (some 9), none, (.call 32 [(.t 8)]), []⟩, ⟨2, (some 4), none, (.q (.mov (.t 9))), []⟩]
@[simp] def b_WDecode_4 (_ : Unit) : EB := reg0 (hid l_WDecode_3) 3
@[simp] def l_WDecode_6 (_ : Unit) : List EOp := [⟨6, none, none, (.fz (.sto 75 (.t 5) (.t 14))), []⟩]
@[simp] def l_WDecode_5 (_ : Unit) : List EOp := ⟨0, (some 10), none, (.q (.mov (.t 4))), []⟩ :: ⟨1, (some 11), none, (.call 33 [(.t 10)]), []⟩ :: ⟨2, (some 12), none, (.q (.mov (.t 4))), []⟩ :: ⟨3, (some 13), none, (.call 33 [(.t 12)]), []⟩ :: ⟨4, (some 14), none, (.q (.build (([(.int .i64 0), (.int .i64 0), (.int .i64 0), (.int .i64 0), (.int .i64 0), (.int .i64 0), (.int .i64 0), (.int .i64 0), (.int .i64 0)] : List Value) ++ zU8 ++ (([(.slice none 0 0)] : List Value) ++ zU8 ++ [(.slice none 0 0)])) [(0, 1, (.t 11)), (1, 1, (.t 13))])), []⟩ :: ⟨5, (some 5), none, (.q (.alloc 55 (([(.int .i64 0), (.int .i64 0), (.int .i64 0), (.int .i64 0), (.int .i64 0), (.int .i64 0), (.int .i64 0), (.int .i64 0), (.int .i64 0)] : List Value) ++ zU8 ++ (([(.slice none 0 0)] : List Value) ++ zU8 ++ [(.slice none 0 0)])))), []⟩ :: hid l_WDecode_6
@[simp] def b_WDecode_7 (_ : Unit) : EB := reg0 (hid l_WDecode_5) 7
@[simp] def l_WDecode_9 (_ : Unit) : List EOp := [⟨6, (some 6), none, (.q (.alloc 47 (([(.int .i64 0), (.int .i64 0), (.int .i64 0), (.int .i64 0), (.int .i64 0), (.int .i64 0), (.int .i64 0)] : List Value) ++ zU8 ++ [(.slice none 0 0)]))), []⟩, ⟨7, none, none, (.fz (.sto 40 (.t 6) (.t 19))), []⟩, ⟨8, (some 7), none, (.q (.mov (.t 20))), []⟩]
@[simp] def l_WDecode_8 (_ : Unit) : List EOp := ⟨0, (some 16), none, (.q (.mov (.t 4))), []⟩ :: ⟨1, (some 17), none, (.call 34 [(.t 16), (.k (.int .i64 256))]), []⟩ :: ⟨2, (some 18), none, (.call 15 [(.t 17)]), []⟩ :: ⟨3, (some 15), none, (.q (.mov (.t 18))), []⟩ :: ⟨4, (some 19), none, (.q (.ext 0 (.t 15))), []⟩ :: ⟨5, (some 20), none, (.q (.ext 1 (.t 15))), []⟩ :: hid l_WDecode_9
@[simp] def b_WDecode_10 (_ : Unit) : EB := reg0 (hid l_WDecode_8) 9
@[simp] def l_WDecode_12 (_ : Unit) : List EOp := [⟨6, none, none, (.fz (.sto 40 (.t 26) (.t 21))), []⟩, ⟨7, (some 27), none, (.q (.fad 42 (.t 5))), []⟩, ⟨8, none, none, (.sto 32 (.t 27) (.t 23)), []⟩, ⟨9, (some 28), none, (.q (.fad 74 (.t 5))), []⟩, ⟨10, none, none, (.fz (.sto 1 (.t 28) (.t 25))), []⟩]
@[simp] def l_WDecode_11 (_ : Unit) : List EOp := ⟨0, (some 21), none, (.q (.lda 40 (.t 6))), []⟩ :: ⟨1, (some 22), none, (.q (.mov (.t 4))), []⟩ :: ⟨3, (some 24), none, (.q (.mov (.t 4))), []⟩ :: ⟨5, (some 26), none, (.q (.fad 2 (.t 5))), []⟩ :: ⟨2, (some 23), none, (.call 35 [(.t 22)]), [0, 3, 5]⟩ :: ⟨4, (some 25), none, (.call 34 [(.t 24), (.k (.int .i64 64))]), [0, 5]⟩ :: hid l_WDecode_12
@[simp] def b_WDecode_13 (_ : Unit) : EB := reg1 (hid l_WDecode_11) 11
@[simp] def l_WDecode_16 (_ : Unit) : List EOp := [⟨12, (some 41), none, (.q (.mov (.t 40))), []⟩, ⟨13, (some 42), (some (41, false)), (.q (.fad 0 (.t 5))), []⟩, ⟨14, (some 43), (some (41, false)), (.q (.ldc (.t 42))), []⟩, ⟨15, (some 44), (some (41, false)), (.q (.bin .gtr (.t 43) (.k (.int .i64 5)))), []⟩, ⟨16, (some 45), none, (.q (.pick (.t 41) (.k (.bool true)) (.t 44))), []⟩]
@[simp] def l_WDecode_15 (_ : Unit) : List EOp := ⟨6, (some 35), none, (.q (.pick (.t 32) (.k (.bool true)) (.t 34))), []⟩ :: ⟨7, (some 36), none, (.q (.mov (.t 35))), []⟩ :: ⟨8, (some 37), (some (36, false)), (.q (.fad 0 (.t 5))), []⟩ :: ⟨9, (some 38), (some (36, false)), (.q (.ldc (.t 37))), []⟩ :: ⟨10, (some 39), (some (36, false)), (.q (.bin .lss (.t 38) (.k (.int .i64 1)))), []⟩ :: ⟨11, (some 40), none, (.q (.pick (.t 36) (.k (.bool true)) (.t 39))), []⟩ :: hid l_WDecode_16
@[simp] def l_WDecode_14 (_ : Unit) : List EOp := ⟨0, (some 29), none, (.q (.mov (.t 4))), []⟩ :: ⟨1, (some 30), none, (.call 36 [(.t 29)]), []⟩ :: ⟨2, (some 31), none, (.q (.eqi true (.t 30))), []⟩ :: ⟨3, (some 32), none, (.q (.mov (.t 31))), []⟩ :: ⟨4, (some 33), (some (32, false)), (.q (.mov (.t 7))), []⟩ :: ⟨5, (some 34), (some (32, false)), (.q (.eqi true (.t 33))), []⟩ :: hid l_WDecode_15
@[simp] def b_WDecode_17 (_ : Unit) : EB := reg0 (hid l_WDecode_14) 17
@[simp] def l_WDecode_18 (_ : Unit) : List EOp := [⟨0, (some 46), none, (.q (.build (([(.int .i64 0), (.int .i64 0), (.int .i64 0), (.int .i64 0), (.int .i64 0), (.int .i64 0), (.int .i64 0), (.int .i64 0), (.int .i64 0)] : List Value) ++ zU8 ++ (([(.slice none 0 0)] : List Value) ++ zU8 ++ [(.slice none 0 0)])) [])), []⟩, ⟨1, (some 47), none, (.q (.mki 73 (.k (.int .i64 3)))), []⟩, ⟨2, none, none, (.fz (.sto 75 (.t 2) (.t 46))), []⟩, ⟨3, (some 3), none, (.q (.mov (.t 47))), []⟩]
@[simp] def b_WDecode_19 (_ : Unit) : EB := reg0 (hid l_WDecode_18) 4
@[simp] def b_WDecode_20 (_ : Unit) : EB := .seq (hid b_WDecode_19) .ret
@[simp] def b_WDecode_21 (_ : Unit) : EB := .cond (.t 45) (hid b_WDecode_20) .skip
@[simp] def b_WDecode_22 (_ : Unit) : EB := .seq (hid b_WDecode_17) (hid b_WDecode_21)
@[simp] def l_WDecode_23 (_ : Unit) : List EOp := [⟨0, (some 48), none, (.q (.lda 75 (.t 5))), []⟩, ⟨1, none, none, (.fz (.sto 75 (.t 2) (.t 48))), []⟩, ⟨2, (some 3), none, (.q (.mov (.k .nilIface))), []⟩]
@[simp] def b_WDecode_24 (_ : Unit) : EB := reg0 (hid l_WDecode_23) 3
@[simp] def b_WDecode_25 (_ : Unit) : EB := .seq (hid b_WDecode_24) .ret
@[simp] def b_WDecode_26 (_ : Unit) : EB := .seq (hid b_WDecode_22) (hid b_WDecode_25)
@[simp] def b_WDecode_27 (_ : Unit) : EB := .seq (hid b_WDecode_13) (hid b_WDecode_26)
@[simp] def b_WDecode_28 (_ : Unit) : EB := .seq (hid b_WDecode_10) (hid b_WDecode_27)
@[simp] def b_WDecode_29 (_ : Unit) : EB := .seq (hid b_WDecode_7) (hid b_WDecode_28)
@[simp] def b_WDecode_30 (_ : Unit) : EB := .seq (hid b_WDecode_4) (hid b_WDecode_29)
@[simp] def b_WDecode_31 (_ : Unit) : EB := .seq (hid b_WDecode_2) (hid b_WDecode_30)
def c_WDecode : EB × List QOp × Nat := ((hid b_WDecode_31), [(.lda 75 (.t 2)), (.mov (.t 3))], 49)
theorem k_WDecode : cfun Tryd.prog 14 = some c_WDecode := by kernel_rfl


theorem dr65 {x y : List UInt8} (hx : x.length = 32) (hy : y.length = 32) (u : EC) (r : List EC) : List.drop 65 (hc x ++ u :: (hc y ++ r)) = r := by
  have h2 : (hc y).length = 32 := by rw [hc_len, hy]
  rw [show 65 = 33 + 32 from rfl, ← List.drop_drop, dr33 hx, List.drop_append, h2, List.drop_eq_nil_of_le (by omega)]
  rfl
theorem tk65 {x y : List UInt8} (hx : x.length = 32) (hy : y.length = 32) (u : EC) (r : List EC) : List.take 65 (hc x ++ u :: (hc y ++ r)) = hc x ++ u :: hc y := by
  have h1 : (hc x).length = 32 := by rw [hc_len, hx]
  rw [List.take_append, h1, List.take_of_length_le (by omega), List.take_succ_cons, tk32a hy]
theorem dr66 {x y : List UInt8} (hx : x.length = 32) (hy : y.length = 32) (u v : EC) (r : List EC) : List.drop 66 (hc x ++ u :: (hc y ++ v :: r)) = r := by
  rw [show 66 = 33 + 33 from rfl, ← List.drop_drop, dr33 hx, dr33 hy]
theorem tk66 {x y : List UInt8} (hx : x.length = 32) (hy : y.length = 32) (u v : EC) (r : List EC) : List.take 66 (hc x ++ u :: (hc y ++ v :: r)) = hc x ++ u :: (hc y ++ [v]) := by
  have h1 : (hc x).length = 32 := by rw [hc_len, hx]
  rw [List.take_append, h1, List.take_of_length_le (by omega), List.take_succ_cons, tk33 hy]

def ME (q : WMsg × Nat) : EV := .tup [.agg (msgC q.1), .c (.fz (.lit (errV q.2)))]
def MR (q : WMsg × Nat) : EV := .tup [.agg (msgC q.1), .c (.fz (.lit (.int .i64 (q.2 : Int))))]

set_option maxRecDepth 8000 in
set_option maxHeartbeats 8000000 in
theorem WDecode_ok (l : List UInt8) (hl : l.length ≤ 100000000) : ECalls Tryd.prog 14 [Bs l] [] fun y H' => H' = [] ∧ y = ME (decM l) := by
  have hl' : l.length ≤ 1000000000 := by omega
  obtain ⟨a, b, x, h, s, ha, hb, hx, hh, hs, hr⟩ := rdM_eq l
  have ta := RdInt_t l (0, 0) (by simp) hl'
  have pa := tkI_p (l := l) (σ := (0, 0)) (by simp)
  rw [ha] at ta pa
  have tb := RdInt_t l a.1 pa.1 hl'
  have pb := tkI_p pa.1
  rw [hb] at tb pb
  have tx := RdBytes_t l 256 b.1 pb.1 hl'
  have px := tkY_p (m := 256) pb.1
  rw [hx] at tx
  rw [show ((256 : Nat) : Int) = 256 from rfl, hx] at px
  have th := RdHash_t l x.1 px.1 hl'
  have ph := tkH_p px.1
  rw [hh] at th ph
  have ts := RdBytes_t l 64 h.1 ph.1 hl'
  have ps := tkY_p (m := 64) ph.1
  rw [hs] at ts
  rw [show ((64 : Nat) : Int) = 64 from rfl, hs] at ps
  have tO := DecodeOp_ok x.2 (by omega)
  have pO := (decO_p x.2).1
  obtain ⟨o, ho⟩ : ∃ o, decO x.2 = o := ⟨_, rfl⟩
  rw [ho] at tO pO hr
  have h32 := pO.2.2.2.1.2.2.2.2
  have t32 : o.1.pay.lock.take 32 = o.1.pay.lock := List.take_of_length_le (by omega)
  have h4 := ph.2
  have t4 : h.2.take 32 = h.2 := List.take_of_length_le (by omega)
  have hcn : hc ([] : List UInt8) = [] := rfl
  have z33 := dr33 hz_len
  have z66 := dr66 hz_len hz_len
  have d65 := dr65 h32 hz_len
  have u65 := tk65 h32 hz_len
  have d66 := dr66 h32 h4
  have u66 := tk66 h32 h4
  refine ecalls k_WDecode ?_
  simp [c_WDecode, Bs]
  refine call0 (Read_ok l) (by simp [Ptr, NP, I, R, RO, RdO, Bs, EV.lit, Ag, RV, rvC]) ?_
  rintro y H' ⟨rfl, rfl⟩
  refine ⟨.inl (by simp [Ptr, NP, I, R, RO, RdO, Bs, EV.lit, Ag, RV, rvC]), le_ok rfl, ?_⟩
  simp [Ptr, NP, I, R, RO, RdO, Bs, EV.lit, Ag, RV, rvC]
  refine callH [48] (ta) (by simp [Ptr, NP, I, R, RO, RdO, Bs, EV.lit, Ag, RV, rvC]) (by simp [Ptr, NP, I, R, RO, RdO, Bs, EV.lit, Ag, RV, rvC]) (by simp) (by simp [Ptr, NP, I, R, RO, RdO, Bs, EV.lit, Ag, RV, rvC]) (by simp [Wok]) ?_
  rintro y H' ⟨rfl, rfl⟩
  refine ⟨.inl (by simp [Ptr, NP, I, R, RO, RdO, Bs, EV.lit, Ag, RV, rvC]), le_ok rfl, ?_⟩
  simp [Ptr, NP, I, R, RO, RdO, Bs, EV.lit, Ag, RV, rvC]
  refine callH [48] (tb) (by simp [Ptr, NP, I, R, RO, RdO, Bs, EV.lit, Ag, RV, rvC]) (by simp [Ptr, NP, I, R, RO, RdO, Bs, EV.lit, Ag, RV, rvC]) (by simp) (by simp [Ptr, NP, I, R, RO, RdO, Bs, EV.lit, Ag, RV, rvC]) (by simp [Wok]) ?_
  rintro y H' ⟨rfl, rfl⟩
  refine ⟨.inl (by simp [Ptr, NP, I, R, RO, RdO, Bs, EV.lit, Ag, RV, rvC]), le_ok rfl, ?_⟩
  simp [Ptr, NP, I, R, RO, RdO, Bs, EV.lit, Ag, RV, rvC]
  refine callH [48] (tx) (by simp [Ptr, NP, I, R, RO, RdO, Bs, EV.lit, Ag, RV, rvC]) (by simp [Ptr, NP, I, R, RO, RdO, Bs, EV.lit, Ag, RV, rvC]) (by simp) (by simp [Ptr, NP, I, R, RO, RdO, Bs, EV.lit, Ag, RV, rvC]) (by simp [Wok]) ?_
  rintro y H' ⟨rfl, rfl⟩
  refine ⟨.inl (by simp [Ptr, NP, I, R, RO, RdO, Bs, EV.lit, Ag, RV, rvC]), le_ok rfl, ?_⟩
  simp [Ptr, NP, I, R, RO, RdO, Bs, EV.lit, Ag, RV, rvC]
  refine call0 (tO) (by simp [Ptr, NP, I, R, RO, RdO, Bs, EV.lit, Ag, RV, rvC]) ?_
  rintro y H' ⟨rfl, rfl⟩
  refine ⟨.inl (by simp [Ptr, NP, I, R, RO, RdO, Bs, EV.lit, Ag, RV, rvC]), le_ok rfl, ?_⟩
  simp [WE, wopC, h32, t32, hcn, tk33 h32, z33]
  refine callH [48] (th) (by simp [Ptr, NP, I, R, RO, RdO, Bs, EV.lit, Ag, RV, rvC]) (by simp [Ptr, NP, I, R, RO, RdO, Bs, EV.lit, Ag, RV, rvC]) (by simp) (by simp [Ptr, NP, I, R, RO, RdO, Bs, EV.lit, Ag, RV, rvC]) (by simp [Wok]) ?_
  rintro y H' ⟨rfl, rfl⟩
  refine ⟨.inl (by simp [Ptr, NP, I, R, RO, RdO, Bs, EV.lit, Ag, RV, rvC]), le_ok rfl, ?_⟩
  simp [RdO, Ag, h4, t4, h32]
  refine callH [48] (ts) (by simp [Ptr, NP, I, R, RO, RdO, Bs, EV.lit, Ag, RV, rvC]) (by simp [Ptr, NP, I, R, RO, RdO, Bs, EV.lit, Ag, RV, rvC]) (by simp) (by simp [Ptr, NP, I, R, RO, RdO, Bs, EV.lit, Ag, RV, rvC]) (by simp [Wok]) ?_
  rintro y H' ⟨rfl, rfl⟩
  refine ⟨.inl (by simp [Ptr, NP, I, R, RO, RdO, Bs, EV.lit, Ag, RV, rvC]), le_ok rfl, ?_⟩
  simp [RdO, Bs, h4, t4, h32, hcn, z33, z66, tk33 h32, d65 , u65, d66, u66]
  obtain ⟨E, hE⟩ : ∃ E, (if s.1.2 ≠ 0 then s.1.2 else if s.1.1 < l.length then 3 else 0) = E := ⟨_, rfl⟩
  have tD := RdDone_ok l s.1.1 s.1.2 ps.1
  rw [hE] at tD
  refine callH [48] (tD) (by simp [Ptr, NP, I, R, RO, RdO, Bs, EV.lit, Ag, RV, rvC]) (by simp [Ptr, NP, I, R, RO, RdO, Bs, EV.lit, Ag, RV, rvC]) (by simp) (by simp [Ptr, NP, I, R, RO, RdO, Bs, EV.lit, Ag, RV, rvC]) (by simp [Wok]) ?_
  rintro y H' ⟨rfl, rfl⟩
  refine ⟨.inl (by simp [Ptr, NP, I, R, RO, RdO, Bs, EV.lit, Ag, RV, rvC]), le_ok rfl, ?_⟩
  by_cases hE0 : E = 0
  rotate_left
  · have hEx : s.1.2 ≠ 0 ∨ s.1.1 < l.length := by
      by_cases h1 : s.1.2 = 0
      · by_cases h2 : s.1.1 < l.length
        · exact .inr h2
        · rw [if_neg (by omega), if_neg h2] at hE; exact absurd hE.symm hE0
      · exact .inl h1
    have hv : errV E = .iface 73 (.int .i64 E) := by rw [errV, if_neg hE0]
    have hdm : decM l = (zMsg, 3) := by
      simp only [decM, hr]
      rw [if_pos]
      show s.1.2 ≠ 0 ∨ s.1.1 < l.length ∨ o.2 ≠ 0 ∨ a.2 < 1 ∨ 5 < a.2
      omega
    rw [hdm]
    simp [hv, RdO, EV.lit, ME, MR, I, msgC, wopC, zMsg, zOp]
    refine finW _ (weak_nlB (o := 0) (k := 41) 1 rfl rfl) ?_
    refine finW _ (weak_nlB (o := 0) (k := 74) 1 rfl rfl) ?_
    exact fin [] (by decide) rfl rfl rfl ⟨rfl, rfl⟩
  subst hE0
  have hEn : s.1.2 = 0 ∧ ¬ s.1.1 < l.length := by
    by_cases h1 : s.1.2 = 0
    · refine ⟨h1, fun h2 => ?_⟩
      rw [if_neg (by omega), if_pos h2] at hE; omega
    · rw [if_pos h1] at hE; exact absurd hE h1
  simp [RdO, EV.lit]
  by_cases ho2 : o.2 = 0
  rotate_left
  · have hv : errV o.2 = .iface 73 (.int .i64 o.2) := by rw [errV, if_neg ho2]
    have hdm : decM l = (zMsg, 3) := by
      simp only [decM, hr]
      rw [if_pos]
      show s.1.2 ≠ 0 ∨ s.1.1 < l.length ∨ o.2 ≠ 0 ∨ a.2 < 1 ∨ 5 < a.2
      omega
    rw [hdm]
    simp [hv, ho2, RdO, EV.lit, ME, MR, I, msgC, wopC, zMsg, zOp]
    refine finW _ (weak_nlB (o := 0) (k := 41) 1 rfl rfl) ?_
    refine finW _ (weak_nlB (o := 0) (k := 74) 1 rfl rfl) ?_
    exact fin [] (by decide) rfl rfl rfl ⟨rfl, rfl⟩
  simp [ho2]
  by_cases hk1 : a.2 < 1
  · have n1 : ¬ 1 ≤ a.2 := by omega
    simp [hk1, n1]
    have hdm : decM l = (zMsg, 3) := by
      simp only [decM, hr]
      rw [if_pos]
      show s.1.2 ≠ 0 ∨ s.1.1 < l.length ∨ o.2 ≠ 0 ∨ a.2 < 1 ∨ 5 < a.2
      omega
    rw [hdm]
    simp [hk1, n1, RdO, EV.lit, ME, MR, I, msgC, wopC, zMsg, zOp]
    refine finW _ (weak_nlB (o := 0) (k := 41) 1 rfl rfl) ?_
    refine finW _ (weak_nlB (o := 0) (k := 74) 1 rfl rfl) ?_
    exact fin [] (by decide) rfl rfl rfl ⟨rfl, rfl⟩
  · have n1 : 1 ≤ a.2 := by omega
    simp [hk1, n1]
    by_cases hk5 : 5 < a.2
    · have n5 : ¬ a.2 ≤ 5 := by omega
      simp [hk5, n5]
      have hdm : decM l = (zMsg, 3) := by
        simp only [decM, hr]
        rw [if_pos]
        show s.1.2 ≠ 0 ∨ s.1.1 < l.length ∨ o.2 ≠ 0 ∨ a.2 < 1 ∨ 5 < a.2
        omega
      rw [hdm]
      simp [hk5, n5, RdO, EV.lit, ME, MR, I, msgC, wopC, zMsg, zOp]
      refine finW _ (weak_nlB (o := 0) (k := 41) 1 rfl rfl) ?_
      refine finW _ (weak_nlB (o := 0) (k := 74) 1 rfl rfl) ?_
      exact fin [] (by decide) rfl rfl rfl ⟨rfl, rfl⟩
    · have n5 : a.2 ≤ 5 := by omega
      simp [hk5, n5, -errV_0]
      have hdm : decM l = (⟨a.2, b.2, o.1, h.2, s.2⟩, 0) := by
        simp only [decM, hr]
        rw [if_neg]
        show ¬ (s.1.2 ≠ 0 ∨ s.1.1 < l.length ∨ o.2 ≠ 0 ∨ a.2 < 1 ∨ 5 < a.2)
        omega
      rw [hdm]
      simp [hk5, n5, RdO, EV.lit, ME, I, msgC, wopC, h32, h4, t32, t4, hcn, tk33 h32, tk65 h32 h4, tk66 h32 h4, -errV_0]
      exact fin [] (by decide) (v := ME (⟨a.2, b.2, o.1, h.2, s.2⟩, 0)) (by simp [resV, resT, evT, asT, ME, msgC, wopC, h32, h4, t32, t4, hcn, tk33 h32, tk65 h32 h4, tk66 h32 h4, -errV_0]; rfl) (by simp [conR, conTs, conT, ME, msgC, wopC]) rfl ⟨rfl, rfl⟩

end Go.Proofs.YtpilpjameifcfaaDoor
