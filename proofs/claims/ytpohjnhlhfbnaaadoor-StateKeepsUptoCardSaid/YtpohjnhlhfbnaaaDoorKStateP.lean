import Derived.Test.YtpohjnhlhfbnaaaDoorKStateM
import Derived.Test.YtpohjnhlhfbnaaaDoorKBl3
namespace Go.Proofs.YtpohjnhlhfbnaaaDoor
open Go Go.EW
set_option linter.unusedSimpArgs false
set_option linter.unusedVariables false

@[simp] def l_SSettle_1 (_ : Unit) : List EOp := [⟨0, (some 3), none, (.q (.box 32 (.t 0))), []⟩, ⟨1, (some 6), none, (.q (.alloc 32 [(.int .i64 0), (.int .i64 0), (.int .i64 0), (.slice none 0 0), (.slice none 0 0)])), []⟩, ⟨2, (some 7), none, (.q (.mov (.k .nilIface))), []⟩]
@[simp] def b_SSettle_2 (_ : Unit) : EB := reg0 (hid l_SSettle_1) 3
@[simp] def l_SSettle_4 (_ : Unit) : List EOp := [⟨6, (some 17), none, (.q (.ext 2 (.t 11))), []⟩, ⟨7, (some 8), none, (.q (.alloc 32 [(.int .i64 0), (.int .i64 0), (.int .i64 0), (.slice none 0 0), (.slice none 0 0)])), []⟩, ⟨8, (some 9), none, (.q (.alloc 61 (([(.int .i64 0), (.int .i64 0), (.int .i64 0), (.int .i64 0)] : List Value) ++ zU8))), []⟩, ⟨9, none, none, (.fz (.sto 5 (.t 8) (.t 15))), []⟩, ⟨10, none, none, (.sto 36 (.t 9) (.t 16)), []⟩, ⟨11, (some 10), none, (.q (.mov (.t 17))), []⟩]
@[simp] def l_SSettle_3 (_ : Unit) : List EOp := ⟨0, (some 12), none, (.q (.lda 5 (.t 3))), []⟩ :: ⟨1, (some 13), none, (.q (.mov (.t 1))), []⟩ :: ⟨2, (some 14), none, (.call 65 [(.t 12), (.t 13)]), []⟩ :: ⟨3, (some 11), none, (.q (.mov (.t 14))), []⟩ :: ⟨4, (some 15), none, (.q (.ext 0 (.t 11))), []⟩ :: ⟨5, (some 16), none, (.q (.ext 1 (.t 11))), []⟩ :: hid l_SSettle_4
@[simp] def b_SSettle_5 (_ : Unit) : EB := reg0 (hid l_SSettle_3) 12
@[simp] def l_SSettle_6 (_ : Unit) : List EOp := [⟨0, (some 19), none, (.q (.mov (.t 10))), []⟩, ⟨1, (some 20), none, (.q (.eqi true (.t 19))), []⟩, ⟨2, (some 18), none, (.q (.mov (.t 20))), []⟩]
@[simp] def b_SSettle_7 (_ : Unit) : EB := reg0 (hid l_SSettle_6) 3
@[simp] def l_SSettle_8 (_ : Unit) : List EOp := [⟨0, (some 21), none, (.q (.build [(.int .i64 0), (.int .i64 0), (.int .i64 0), (.slice none 0 0), (.slice none 0 0)] [])), []⟩, ⟨1, (some 22), none, (.q (.mov (.t 10))), []⟩, ⟨2, none, none, (.fz (.sto 5 (.t 6) (.t 21))), []⟩, ⟨3, (some 7), none, (.q (.mov (.t 22))), []⟩]
@[simp] def b_SSettle_9 (_ : Unit) : EB := reg0 (hid l_SSettle_8) 4
@[simp] def b_SSettle_10 (_ : Unit) : EB := .seq (hid b_SSettle_9) .ret
@[simp] def l_SSettle_11 (_ : Unit) : List EOp := [⟨0, (some 24), none, (.q (.mov (.t 2))), []⟩, ⟨2, (some 26), none, (.q (.fad 4 (.t 9))), []⟩, ⟨3, (some 27), none, (.q (.lda 32 (.t 26))), []⟩, ⟨1, (some 25), none, (.call 66 [(.t 24)]), [2, 3]⟩, ⟨4, (some 28), none, (.q (.eqa true 32 .u8 (.t 25) (.t 27))), []⟩, ⟨5, (some 23), none, (.q (.mov (.t 28))), []⟩]
@[simp] def b_SSettle_12 (_ : Unit) : EB := reg1 (hid l_SSettle_11) 6
@[simp] def l_SSettle_13 (_ : Unit) : List EOp := [⟨0, (some 29), none, (.q (.build [(.int .i64 0), (.int .i64 0), (.int .i64 0), (.slice none 0 0), (.slice none 0 0)] [])), []⟩, ⟨1, (some 30), none, (.q (.mki 79 (.k (.int .i64 22)))), []⟩, ⟨2, none, none, (.fz (.sto 5 (.t 6) (.t 29))), []⟩, ⟨3, (some 7), none, (.q (.mov (.t 30))), []⟩]
@[simp] def b_SSettle_14 (_ : Unit) : EB := reg0 (hid l_SSettle_13) 4
@[simp] def b_SSettle_15 (_ : Unit) : EB := .seq (hid b_SSettle_14) .ret
@[simp] def b_SSettle_16 (_ : Unit) : EB := .cond (.t 23) (hid b_SSettle_15) .skip
@[simp] def b_SSettle_17 (_ : Unit) : EB := .seq (hid b_SSettle_12) (hid b_SSettle_16)
@[simp] def b_SSettle_18 (_ : Unit) : EB := .cond (.t 18) (hid b_SSettle_10) (hid b_SSettle_17)
@[simp] def b_SSettle_19 (_ : Unit) : EB := .seq (hid b_SSettle_7) (hid b_SSettle_18)
@[simp] def b_SSettle_20 (_ : Unit) : EB := .block 0 (hid b_SSettle_19)
@[simp] def l_SSettle_22 (_ : Unit) : List EOp := [⟨6, (some 37), none, (.q (.fad 2 (.t 9))), []⟩, ⟨7, (some 38), none, (.q (.ldc (.t 37))), []⟩, ⟨8, (some 39), none, (.q (.bin .add (.t 36) (.t 38))), []⟩, ⟨9, (some 40), none, (.q (.fad 1 (.t 8))), []⟩, ⟨10, (some 41), none, (.q (.iad 2 1 (.t 40) (.t 33))), []⟩, ⟨11, none, none, (.sto 1 (.t 41) (.t 39)), []⟩]
@[simp] def l_SSettle_21 (_ : Unit) : List EOp := ⟨0, (some 31), none, (.q (.fad 1 (.t 9))), []⟩ :: ⟨1, (some 32), none, (.q (.ldc (.t 31))), []⟩ :: ⟨2, (some 33), none, (.q (.bin .sub (.k (.int .i64 1)) (.t 32))), []⟩ :: ⟨3, (some 34), none, (.q (.fad 1 (.t 8))), []⟩ :: ⟨4, (some 35), none, (.q (.iad 2 1 (.t 34) (.t 33))), []⟩ :: ⟨5, (some 36), none, (.q (.ldc (.t 35))), []⟩ :: hid l_SSettle_22
@[simp] def b_SSettle_23 (_ : Unit) : EB := reg0 (hid l_SSettle_21) 12
@[simp] def l_SSettle_24 (_ : Unit) : List EOp := [⟨0, (some 42), none, (.q (.lda 5 (.t 8))), []⟩, ⟨1, none, none, (.fz (.sto 5 (.t 6) (.t 42))), []⟩, ⟨2, (some 7), none, (.q (.mov (.k .nilIface))), []⟩]
@[simp] def b_SSettle_25 (_ : Unit) : EB := reg0 (hid l_SSettle_24) 3
@[simp] def b_SSettle_26 (_ : Unit) : EB := .seq (hid b_SSettle_25) .ret
@[simp] def b_SSettle_27 (_ : Unit) : EB := .seq (hid b_SSettle_23) (hid b_SSettle_26)
@[simp] def b_SSettle_28 (_ : Unit) : EB := .seq (hid b_SSettle_20) (hid b_SSettle_27)
@[simp] def b_SSettle_29 (_ : Unit) : EB := .seq (hid b_SSettle_5) (hid b_SSettle_28)
@[simp] def b_SSettle_30 (_ : Unit) : EB := .seq (hid b_SSettle_2) (hid b_SSettle_29)
def c_SSettle : EB × List QOp × Nat := ((hid b_SSettle_30), [(.lda 5 (.t 6)), (.mov (.t 7))], 43)
theorem k_SSettle : cfun Tryd.prog 24 = some c_SSettle := by kernel_rfl


@[simp] theorem errV_22 : Value.iface 79 (.int .i64 22) = errV 22 := rfl
/-- A payment given to whom the secret opens it; the error. -/
def setS (s : Sta) (x : Int) (b : List UInt8) : Sta × Nat :=
  if (takS s x).2.2 ≠ 0 then (zSta, (takS s x).2.2) else if sumS b ≠ (takS s x).2.1.lock then (zSta, 22)
  else (⟨(takS s x).1.num, if (takS s x).2.1.fr = 0 then s.h0 else s.h0 + (takS s x).2.1.am, if (takS s x).2.1.fr = 0 then s.h1 + (takS s x).2.1.am else s.h1, (takS s x).1.pays, s.holds⟩, 0)
theorem pd4 (p : Pay) : (payC p).drop 4 = hc p.lock := rfl

set_option maxHeartbeats 4000000 in
theorem SSettle_ok (s : Sta) (x : Int) (b : List UInt8) (hs : s.ok) (hx64 : i64 x) (hbl : b.length ≤ 100000000) : ECalls Tryd.prog 24 [SV s, I .i64 x, Bs b] [] fun y H' => H' = [] ∧ y = SE (setS s x b) := by
  obtain ⟨ok1, ok2, ok3, ok4, ok5, ok6, ok7⟩ := id hs
  have hsl := sumS_len b
  refine ecalls k_SSettle ?_
  simp [c_SSettle, SV, staC, I, Bs, -errV_0]
  refine call0 (Stake_ok s x hs hx64) (by simp [SV, staC, I]) ?_
  rintro y H' ⟨rfl, rfl⟩
  refine ⟨.inl (by simp), le_ok rfl, ?_⟩
  by_cases h0 : mayS s = true ∧ s.num ≠ 1099511627776
  rotate_left
  · have hx : nxt s = (zSta, 1) := by simp only [nxt, if_neg h0]
    have ha : takS s x = (zSta, zPay, 1) := by simp [takS, hx]
    have hb : setS s x b = (zSta, 1) := by simp [setS, ha]
    rw [ha, hb]
    simp [SE, SP, staC, zSta, zPay, payC, -errV_0]
    refine finW _ (weak_nlB (o := 16) (k := 3) 36 rfl rfl) (finW _ (weak_nlB (o := 16) (k := 4) 3 rfl rfl) ?_)
    exact fin [] (by decide) rfl rfl rfl ⟨rfl, rfl⟩
  have hx : nxt s = (⟨s.num + 1, s.h0, s.h1, s.pays, s.holds⟩, 0) := by simp only [nxt, if_pos h0]
  obtain ⟨hr, hpl', hh, htot⟩ := mayS_t h0.1
  cases hf : fndI (s.pays.map (·.id)) x
  · have ha : takS s x = (zSta, zPay, 8) := by simp [takS, hx, hf]
    have hb : setS s x b = (zSta, 8) := by simp [setS, ha]
    rw [ha, hb]
    simp [SE, SP, staC, zSta, zPay, payC, -errV_0]
    refine finW _ (weak_nlB (o := 16) (k := 3) 36 rfl rfl) (finW _ (weak_nlB (o := 16) (k := 4) 3 rfl rfl) ?_)
    exact fin [] (by decide) rfl rfl rfl ⟨rfl, rfl⟩
  obtain ⟨p, hc, hid⟩ := fnd_get (f := Pay.id) hf
  have hpm := List.mem_of_getElem? hc
  have hpo := ok4 p hpm
  obtain ⟨m1, m2, m3, m4, m5, m6, m7, m8⟩ := of_decide_eq_true (payL_mem hpl' p hpm)
  have hle := payL_sum hpl' p hpm
  have hnn := sumH_nn hh
  have hto : total s = s.h0 + s.h1 + sumP s.pays + sumH s.holds := rfl
  have ha : takS s x = (⟨s.num + 1, s.h0, s.h1, delP s.pays x, s.holds⟩, p, 0) := by simp [takS, hx, hf, hc]
  have hb : setS s x b = if sumS b ≠ p.lock then (zSta, 22) else (⟨s.num + 1, if p.fr = 0 then s.h0 else s.h0 + p.am, if p.fr = 0 then s.h1 + p.am else s.h1, delP s.pays x, s.holds⟩, 0) := by simp [setS, ha]
  rw [ha, hb]
  have hpt := payC_take hpo.2.2.2.2
  have hpl := payC_len hpo.2.2.2.2
  have hlk : p.lock.length = 32 := hpo.2.2.2.2
  have hlt32 : List.take 32 (Go.EW.hc p.lock) = Go.EW.hc p.lock := hc_t32 hlk
  simp [SP, staC, hpl, hpt, pc0, pc1, pc2, pd1, pd2, pe0, pe1, pe2, -errV_0]
  refine call0 (BSum_ok b hbl) (by simp [Bs]) ?_
  rintro y H' ⟨rfl, rfl⟩
  refine ⟨.inl (by simp), le_ok rfl, ?_⟩
  have hcn : Go.EW.hc [] = [] := rfl
  have hq : (List.map (fun b : UInt8 => (b.toNat : Int)) (sumS b) = List.map (fun b : UInt8 => (b.toNat : Int)) p.lock) ↔ sumS b = p.lock := ⟨hc_inj, fun e => by rw [e]⟩
  by_cases he : sumS b = p.lock
  rotate_left
  · simp [hpl, hpt, pd4, hlt32, hlk, hsl, hcn, hq, he, SE, staC, zSta, -errV_0]
    refine finW _ (weak_nlB (o := 16) (k := 3) 36 rfl rfl) (finW _ (weak_nlB (o := 16) (k := 4) 3 rfl rfl) ?_)
    exact fin [] (by decide) rfl rfl rfl ⟨rfl, rfl⟩
  rcases m3 with hfr | hfr
  · have w0 : IntKind.i64.wrap 1 = 1 := by decide +kernel
    have w1 : IntKind.i64.wrap (s.h1 + p.am) = s.h1 + p.am := wrap_i64 (by omega) (by omega)
    simp [hpl, hpt, pd4, hlt32, hlk, hsl, hcn, hq, he, hfr, pc0, pc1, pc2, pd1, pd2, pe0, pe1, pe2, w0, w1, -errV_0]
    exact fin [] (by decide) rfl rfl rfl ⟨rfl, by simp [SE, staC, hfr, errV, -errV_0]⟩
  · have w0 : IntKind.i64.wrap 0 = 0 := by decide +kernel
    have w1 : IntKind.i64.wrap (s.h0 + p.am) = s.h0 + p.am := wrap_i64 (by omega) (by omega)
    simp [hpl, hpt, pd4, hlt32, hlk, hsl, hcn, hq, he, hfr, pc0, pc1, pc2, pd1, pd2, pe0, pe1, pe2, w0, w1, -errV_0]
    exact fin [] (by decide) rfl rfl rfl ⟨rfl, by simp [SE, staC, hfr, errV, -errV_0]⟩

end Go.Proofs.YtpohjnhlhfbnaaaDoor
