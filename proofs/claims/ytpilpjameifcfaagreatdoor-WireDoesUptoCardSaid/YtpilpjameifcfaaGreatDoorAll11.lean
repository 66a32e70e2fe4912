import Derived.Test.YtpilpjameifcfaaGreatDoorAll9
import Derived.Test.YtpilpjameifcfaaGreatDoorAll10
import Derived.Test.YtpilpjameifcfaaGreatDoorAll8
import Derived.Test.YtpilpjameifcfaaGreatDoorAll7
import Derived.Test.YtpilpjameifcfaaGreatDoorAll6
namespace Go.Proofs.YtpilpjameifcfaaGreatDoor
open Go Go.EW
set_option linter.unusedSimpArgs false
set_option linter.unusedVariables false

@[simp] def l_SSettle_1 (_ : Unit) : List EOp := [⟨0, (some 3), none, (.q (.box 39 (.t 0))), []⟩, ⟨1, (some 6), none, (.q (.alloc 39 [(.int .i64 0), (.int .i64 0), (.int .i64 0), (.slice none 0 0), (.slice none 0 0)])), []⟩, ⟨2, (some 7), none, (.q (.mov (.k .nilIface))), []⟩]
@[simp] def b_SSettle_2 (_ : Unit) : EB := reg0 (hid l_SSettle_1) 3
@[simp] def l_SSettle_4 (_ : Unit) : List EOp := [⟨6, (some 17), none, (.q (.ext 2 (.t 11))), []⟩, ⟨7, (some 8), none, (.q (.alloc 39 [(.int .i64 0), (.int .i64 0), (.int .i64 0), (.slice none 0 0), (.slice none 0 0)])), []⟩, ⟨8, (some 9), none, (.q (.alloc 45 (([(.int .i64 0), (.int .i64 0), (.int .i64 0), (.int .i64 0)] : List Value) ++ zU8))), []⟩, ⟨9, none, none, (.fz (.sto 5 (.t 8) (.t 15))), []⟩, ⟨10, none, none, (.sto 36 (.t 9) (.t 16)), []⟩, ⟨11, (some 10), none, (.q (.mov (.t 17))), []⟩]
@[simp] def l_SSettle_3 (_ : Unit) : List EOp := ⟨0, (some 12), none, (.q (.lda 5 (.t 3))), []⟩ :: ⟨1, (some 13), none, (.q (.mov (.t 1))), []⟩ :: ⟨2, (some 14), none, (.call 65 [(.t 12), (.t 13)]), []⟩ :: ⟨3, (some 11), none, (.q (.mov (.t 14))), []⟩ :: ⟨4, (some 15), none, (.q (.ext 0 (.t 11))), []⟩ :: ⟨5, (some 16), none, (.q (.ext 1 (.t 11))), []⟩ :: hid l_SSettle_4
@[simp] def b_SSettle_5 (_ : Unit) : EB := reg0 (hid l_SSettle_3) 12
@[simp] def l_SSettle_6 (_ : Unit) : List EOp := [⟨0, (some 19), none, (.q (.mov (.t 10))), []⟩, ⟨1, (some 20), none, (.q (.eqi true (.t 19))), []⟩, ⟨2, (some 18), none, (.q (.mov (.t 20))), []⟩]
@[simp] def b_SSettle_7 (_ : Unit) : EB := reg0 (hid l_SSettle_6) 3
@[simp] def l_SSettle_8 (_ : Unit) : List EOp := [⟨0, (some 21), none, (.q (.build [(.int .i64 0), (.int .i64 0), (.int .i64 0), (.slice none 0 0), (.slice none 0 0)] [])), []⟩, ⟨1, (some 22), none, (.q (.mov (.t 10))), []⟩, ⟨2, none, none, (.fz (.sto 5 (.t 6) (.t 21))), []⟩, ⟨3, (some 7), none, (.q (.mov (.t 22))), []⟩]
@[simp] def b_SSettle_9 (_ : Unit) : EB := reg0 (hid l_SSettle_8) 4
@[simp] def b_SSettle_10 (_ : Unit) : EB := .seq (hid b_SSettle_9) .ret
@[simp] def l_SSettle_11 (_ : Unit) : List EOp := [⟨0, (some 24), none, (.q (.mov (.t 2))), []⟩, ⟨2, (some 26), none, (.q (.fad 4 (.t 9))), []⟩, ⟨3, (some 27), none, (.q (.lda 32 (.t 26))), []⟩, ⟨1, (some 25), none, (.call 66 [(.t 24)]), [2, 3]⟩, ⟨4, (some 28), none, (.q (.eqa true 32 .u8 (.t 25) (.t 27))), []⟩, ⟨5, (some 23), none, (.q (.mov (.t 28))), []⟩]
@[simp] def b_SSettle_12 (_ : Unit) : EB := reg1 (hid l_SSettle_11) 6
@[simp] def l_SSettle_13 (_ : Unit) : List EOp := [⟨0, (some 29), none, (.q (.build [(.int .i64 0), (.int .i64 0), (.int .i64 0), (.slice none 0 0), (.slice none 0 0)] [])), []⟩, ⟨1, (some 30), none, (.q (.mki 77 (.k (.int .i64 22)))), []⟩, ⟨2, none, none, (.fz (.sto 5 (.t 6) (.t 29))), []⟩, ⟨3, (some 7), none, (.q (.mov (.t 30))), []⟩]
@[simp] def b_SSettle_14 (_ : Unit) : EB := reg0 (hid l_SSettle_13) 4
@[simp] def b_SSettle_15 (_ : Unit) : EB := .seq (hid b_SSettle_14) .ret
@[simp] def b_SSettle_16 (_ : Unit) : EB := .cond (.t 23) (hid b_SSettle_15) .skip
@[simp] def b_SSettle_17 (_ : Unit) : EB := .seq (hid b_SSettle_12) (hid b_SSettle_16)
@[simp] def b_SSettle_18 (_ : Unit) : EB := .cond (.t 18) (hid b_SSettle_10) (hid b_SSettle_17)
@[simp] def b_SSettle_19 (_ : Unit) : EB := .seq (hid b_SSettle_7) (hid b_SSettle_18)
@[simp] def b_SSettle_20 (_ : Unit) : EB := .block 0 (hid b_SSettle_19)
@[simp] def l_SSettle_22 (_ : Unit) : List EOp := [⟨6, (some 37), none, (.q (.fad 2 (.t 9))), []⟩, ⟨7, (some 38), none, (.q (.ldc (.t 37))), []⟩, ⟨8, (some 39), none, (.q (.bin .add (.t 36) (.t 38))), []⟩, ⟨9, (some 40), none, (.q (.fad 1 (.t 8))), []⟩, ⟨10, (some 41), none, (.q (.iad 2 1 (.t 40) (.t 33))), []⟩, ⟨11, none, none, (.sto 1 (.t 41) (.t 39)), []⟩]
@[simp] def l_SSettle_21 (_ : Unit) : List EOp := ⟨0, (some 31), none, (.q (.fad 1 (.t 9))), []⟩ :: ⟨1, (some 32), none, (.q (.ldc (.t 31))), []⟩ :: ⟨2, (some 33), none, (.q (.bin .sub (.k (.int .i64 1)) (.t 32))), []⟩ :: ⟨3, (some 34), none, (.q (.fad 1 (.t 8))), []⟩ :: ⟨4, (some 35), none, (.q (.iad 2 1 (.t 34) (.t 33))), []⟩ :: ⟨5, (some 36), none, (.q (.ldc (.t 35))), []⟩ :: hid l_SSettle_22
@[simp] def b_SSettle_23 (_ : Unit) : EB := reg0 (hid l_SSettle_21) 12
@[simp] def l_SSettle_24 (_ : Unit) : List EOp := [⟨0, (some 42), none, (.q (.lda 5 (.t 8))), []⟩, ⟨1, none, none, (.fz (.sto 5 (.t 6) (.t 42))), []⟩, ⟨2, (some 7), none, (.q (.mov (.k .nilIface))), []⟩]
@[simp] def b_SSettle_25 (_ : Unit) : EB := reg0 (hid l_SSettle_24) 3
@[simp] def b_SSettle_26 (_ : Unit) : EB := .seq (hid b_SSettle_25) .ret
@[simp] def b_SSettle_27 (_ : Unit) : EB := .seq (hid b_SSettle_23) (hid b_SSettle_26)
@[simp] def b_SSettle_28 (_ : Unit) : EB := .seq (hid b_SSettle_20) (hid b_SSettle_27)
@[simp] def b_SSettle_29 (_ : Unit) : EB := .seq (hid b_SSettle_5) (hid b_SSettle_28)
@[simp] def b_SSettle_30 (_ : Unit) : EB := .seq (hid b_SSettle_2) (hid b_SSettle_29)
def c_SSettle : EB × List QOp × Nat := ((hid b_SSettle_30), [(.lda 5 (.t 6)), (.mov (.t 7))], 43)
theorem k_SSettle : cfun Tryz.prog 27 = some c_SSettle := by kernel_rfl


@[simp] theorem errV_22 : Value.iface 77 (.int .i64 22) = errV 22 := rfl
/-- A payment given to whom the secret opens it; the error. -/
def setS (s : Sta) (x : Int) (b : List UInt8) : Sta × Nat :=
  if (takS s x).2.2 ≠ 0 then (zSta, (takS s x).2.2) else if sumS b ≠ (takS s x).2.1.lock then (zSta, 22)
  else (⟨(takS s x).1.num, if (takS s x).2.1.fr = 0 then s.h0 else s.h0 + (takS s x).2.1.am, if (takS s x).2.1.fr = 0 then s.h1 + (takS s x).2.1.am else s.h1, (takS s x).1.pays, s.holds⟩, 0)
theorem pd4 (p : Pay) : (payC p).drop 4 = hc p.lock := rfl

set_option maxHeartbeats 4000000 in
theorem SSettle_ok (s : Sta) (x : Int) (b : List UInt8) (hs : s.ok) (hx64 : i64 x) (hbl : b.length ≤ 100000000) : ECalls Tryz.prog 27 [SV s, I .i64 x, Bs b] [] fun y H' => H' = [] ∧ y = SE (setS s x b) := by
  obtain ⟨ok1, ok2, ok3, ok4, ok5, ok6, ok7⟩ := id hs
  have hsl := sumS_len b
  refine ecalls k_SSettle ?_
  simp [c_SSettle, SV, staC, I, Bs, -errV_0]
  refine call0 (Stake_ok s x hs hx64) (by simp [SV, staC, I]) ?_
  rintro y H' ⟨rfl, rfl⟩
  refine ⟨.inl (by simp), le_ok rfl, ?_⟩
  by_cases h0 : mayS s = true ∧ s.num ≠ 1099511627776
  rotate_left
  · have hx : nxt s = (zSta, 1) := by simp only [nxt, if_neg h0]
    have ha : takS s x = (zSta, zPay, 1) := by simp [takS, hx]
    have hb : setS s x b = (zSta, 1) := by simp [setS, ha]
    rw [ha, hb]
    simp [SE, SP, staC, zSta, zPay, payC, -errV_0]
    refine finW _ (weak_nlB (o := 16) (k := 3) 36 rfl rfl) (finW _ (weak_nlB (o := 16) (k := 4) 3 rfl rfl) ?_)
    exact fin [] (by decide) rfl rfl rfl ⟨rfl, rfl⟩
  have hx : nxt s = (⟨s.num + 1, s.h0, s.h1, s.pays, s.holds⟩, 0) := by simp only [nxt, if_pos h0]
  obtain ⟨hr, hpl', hh, htot⟩ := mayS_t h0.1
  cases hf : fndI (s.pays.map (·.id)) x
  · have ha : takS s x = (zSta, zPay, 8) := by simp [takS, hx, hf]
    have hb : setS s x b = (zSta, 8) := by simp [setS, ha]
    rw [ha, hb]
    simp [SE, SP, staC, zSta, zPay, payC, -errV_0]
    refine finW _ (weak_nlB (o := 16) (k := 3) 36 rfl rfl) (finW _ (weak_nlB (o := 16) (k := 4) 3 rfl rfl) ?_)
    exact fin [] (by decide) rfl rfl rfl ⟨rfl, rfl⟩
  obtain ⟨p, hc, hid⟩ := fnd_get (f := Pay.id) hf
  have hpm := List.mem_of_getElem? hc
  have hpo := ok4 p hpm
  obtain ⟨m1, m2, m3, m4, m5, m6, m7, m8⟩ := of_decide_eq_true (payL_mem hpl' p hpm)
  have hle := payL_sum hpl' p hpm
  have hnn := sumH_nn hh
  have hto : total s = s.h0 + s.h1 + sumP s.pays + sumH s.holds := rfl
  have ha : takS s x = (⟨s.num + 1, s.h0, s.h1, delP s.pays x, s.holds⟩, p, 0) := by simp [takS, hx, hf, hc]
  have hb : setS s x b = if sumS b ≠ p.lock then (zSta, 22) else (⟨s.num + 1, if p.fr = 0 then s.h0 else s.h0 + p.am, if p.fr = 0 then s.h1 + p.am else s.h1, delP s.pays x, s.holds⟩, 0) := by simp [setS, ha]
  rw [ha, hb]
  have hpt := payC_take hpo.2.2.2.2
  have hpl := payC_len hpo.2.2.2.2
  have hlk : p.lock.length = 32 := hpo.2.2.2.2
  have hlt32 : List.take 32 (Go.EW.hc p.lock) = Go.EW.hc p.lock := hc_t32 hlk
  simp [SP, staC, hpl, hpt, pc0, pc1, pc2, pd1, pd2, pe0, pe1, pe2, -errV_0]
  refine call0 (BSum_ok b hbl) (by simp [Bs]) ?_
  rintro y H' ⟨rfl, rfl⟩
  refine ⟨.inl (by simp), le_ok rfl, ?_⟩
  have hcn : Go.EW.hc [] = [] := rfl
  have hq : (List.map (fun b : UInt8 => (b.toNat : Int)) (sumS b) = List.map (fun b : UInt8 => (b.toNat : Int)) p.lock) ↔ sumS b = p.lock := ⟨hc_inj, fun e => by rw [e]⟩
  by_cases he : sumS b = p.lock
  rotate_left
  · simp [hpl, hpt, pd4, hlt32, hlk, hsl, hcn, hq, he, SE, staC, zSta, -errV_0]
    refine finW _ (weak_nlB (o := 16) (k := 3) 36 rfl rfl) (finW _ (weak_nlB (o := 16) (k := 4) 3 rfl rfl) ?_)
    exact fin [] (by decide) rfl rfl rfl ⟨rfl, rfl⟩
  rcases m3 with hfr | hfr
  · have w0 : IntKind.i64.wrap 1 = 1 := by decide +kernel
    have w1 : IntKind.i64.wrap (s.h1 + p.am) = s.h1 + p.am := wrap_i64 (by omega) (by omega)
    simp [hpl, hpt, pd4, hlt32, hlk, hsl, hcn, hq, he, hfr, pc0, pc1, pc2, pd1, pd2, pe0, pe1, pe2, w0, w1, -errV_0]
    exact fin [] (by decide) rfl rfl rfl ⟨rfl, by simp [SE, staC, hfr, errV, -errV_0]⟩
  · have w0 : IntKind.i64.wrap 0 = 0 := by decide +kernel
    have w1 : IntKind.i64.wrap (s.h0 + p.am) = s.h0 + p.am := wrap_i64 (by omega) (by omega)
    simp [hpl, hpt, pd4, hlt32, hlk, hsl, hcn, hq, he, hfr, pc0, pc1, pc2, pd1, pd2, pe0, pe1, pe2, w0, w1, -errV_0]
    exact fin [] (by decide) rfl rfl rfl ⟨rfl, by simp [SE, staC, hfr, errV, -errV_0]⟩

end Go.Proofs.YtpilpjameifcfaaGreatDoor

namespace Go.Proofs.YtpilpjameifcfaaGreatDoor
open Go Go.EW
set_option linter.unusedSimpArgs false
set_option linter.unusedVariables false

/-- A state that may stand behind s: as much in all, the next number. -/
def Gd (s t : Sta) : Prop := mayS t = true ∧ total t = total s ∧ t.num = s.num + 1 ∧ t.ok

theorem gd_mk {s : Sta} (h0 : mayS s = true ∧ s.num ≠ 1099511627776) {x y : Int} {ps : List Pay} {hl : List Hol} (hx : 0 ≤ x) (hy : 0 ≤ y) (hp : payL none ps = true) (hh : holL none hl = true)
    (po : ∀ p ∈ ps, p.ok) (ho : ∀ h ∈ hl, h.ok) (h8 : hl.length + ps.length ≤ 8) (ht : x + y + sumP ps + sumH hl = total s) : Gd s ⟨s.num + 1, x, y, ps, hl⟩ := by
  obtain ⟨hr, _, _, htot⟩ := mayS_t h0.1
  have n1 := sumP_nn hp
  have n2 := sumH_nn hh
  have h02 := h0.2
  have hm : mayS ⟨s.num + 1, x, y, ps, hl⟩ = true := mayS_mk (by dsimp only; omega) hp hh (by show x + y + sumP ps + sumH hl ≤ _; omega)
  exact ⟨hm, ht, rfl, may_ok hm po ho⟩
theorem nxt_zero {s : Sta} (h : ¬ (nxt s).2 ≠ 0) : mayS s = true ∧ s.num ≠ 1099511627776 := by
  unfold nxt at h
  split at h
  · rename_i h'; exact h'
  · simp at h
theorem delA_sub {α : Type} (f : α → Int) (l : List α) (x : Int) : (delA f l x).Sublist l := by
  unfold delA
  obtain ⟨n, hn⟩ : ∃ n, posI (l.map f) x = n := ⟨_, rfl⟩
  rw [hn]
  have h1 : (l.drop (n + 1)).Sublist (l.drop n) := by
    rw [← List.drop_drop]
    exact List.drop_sublist 1 _
  have h2 := (List.Sublist.refl (l.take n)).append h1
  rwa [List.take_append_drop] at h2
theorem payL_sub {l l' : List Pay} (h : payL none l = true) (hs : l'.Sublist l) : payL none l' = true := by
  obtain ⟨q1, q2, _⟩ := payL_iff.1 h
  exact payL_iff.2 ⟨fun p hp => q1 p (hs.subset hp), q2.sublist (hs.map _), fun q hq => by simp at hq⟩
theorem holL_sub {l l' : List Hol} (h : holL none l = true) (hs : l'.Sublist l) : holL none l' = true := by
  obtain ⟨q1, q2, _⟩ := holL_iff.1 h
  exact holL_iff.2 ⟨fun p hp => q1 p (hs.subset hp), q2.sublist (hs.map _), fun q hq => by simp at hq⟩
theorem moveS_gd {s : Sta} {a n : Int} (hs : s.ok) (h : (moveS s a n).2 = 0) : Gd s (moveS s a n).1 := by
  unfold moveS at h ⊢
  split at h
  · rename_i h1; exact absurd h h1
  rename_i h1
  have h0 := nxt_zero h1
  obtain ⟨hr, hpl, hh, htot⟩ := mayS_t h0.1
  obtain ⟨ok1, ok2, ok3, ok4, ok5, ok6, ok7⟩ := id hs
  have hto : total s = s.h0 + s.h1 + sumP s.pays + sumH s.holds := rfl
  rw [if_neg h1]
  split at h
  · simp at h
  rename_i h2
  rw [if_neg h2]
  split at h
  · simp at h
  rename_i h3
  rw [if_neg h3]
  by_cases h4 : (if a = 0 then s.h0 else s.h1) < n
  · rw [if_pos h4] at h; simp at h
  rw [if_neg h4]
  by_cases e : a = 0
  · rw [if_pos e]
    rw [if_pos e] at h4
    exact gd_mk h0 (by omega) (by omega) hpl hh ok4 ok5 (by omega) (by omega)
  · rw [if_neg e]
    rw [if_neg e] at h4
    exact gd_mk h0 (by omega) (by omega) hpl hh ok4 ok5 (by omega) (by omega)
theorem addP_gd {s : Sta} {p : Pay} (hs : s.ok) (hp : p.ok) (h : (addP s p).2 = 0) : Gd s (addP s p).1 := by
  obtain ⟨h1, h2, h3, h4, h5, h6, h7⟩ := addP_may h
  exact ⟨h6, h7, by rw [h5], addP_ok hs hp h⟩
theorem takS_gd {s : Sta} {x : Int} (h : (takS s x).2.2 = 0) : (mayS s = true ∧ s.num ≠ 1099511627776) ∧ (takS s x).1 = ⟨s.num + 1, s.h0, s.h1, delA Pay.id s.pays x, s.holds⟩ ∧ (takS s x).2.1 ∈ s.pays ∧ sumP (delA Pay.id s.pays x) = sumP s.pays - (takS s x).2.1.am ∧ (delA Pay.id s.pays x).length = s.pays.length - 1 ∧ 10 ≤ (takS s x).2.1.am := by
  unfold takS at h ⊢
  split at h
  · simp at h
  rename_i h1
  have h0 := nxt_zero h1
  obtain ⟨hr, hpl, hh, htot⟩ := mayS_t h0.1
  split at h
  · simp at h
  rename_i h2
  rw [if_neg h1, if_neg h2]
  have hf : fndI (s.pays.map Pay.id) x = true := by simpa using h2
  obtain ⟨b, hb, hid⟩ := fnd_get (f := Pay.id) hf
  have hb' : s.pays[posI (s.pays.map (·.id)) x]? = some b := hb
  have hmem := List.mem_of_getElem? hb
  refine ⟨h0, by rw [delP_eq], ?_, ?_, len_del (f := Pay.id) hb, ?_⟩
  · show (s.pays[posI (s.pays.map (·.id)) x]?).getD zPay ∈ s.pays
    rw [hb']; exact hmem
  · have e := sum_del (f := Pay.id) (·.am) hb
    show sumP _ = sumP _ - ((s.pays[posI (s.pays.map (·.id)) x]?).getD zPay).am
    rw [hb']; exact e
  · show 10 ≤ ((s.pays[posI (s.pays.map (·.id)) x]?).getD zPay).am
    rw [hb']; exact (mayP_pos (payL_mem hpl b hmem)).2.1
theorem back_gd {s : Sta} {x u v : Int} (hs : s.ok) (h : (takS s x).2.2 = 0) (hu : s.h0 ≤ u) (hv : s.h1 ≤ v) (huv : u + v = s.h0 + s.h1 + (takS s x).2.1.am) : Gd s ⟨(takS s x).1.num, u, v, (takS s x).1.pays, s.holds⟩ := by
  obtain ⟨h0, e, hm, h5, h6, h7⟩ := takS_gd h
  obtain ⟨hr, hpl, hh, htot⟩ := mayS_t h0.1
  obtain ⟨ok1, ok2, ok3, ok4, ok5, ok6, ok7⟩ := id hs
  have hto : total s = s.h0 + s.h1 + sumP s.pays + sumH s.holds := rfl
  rw [e]
  show Gd s ⟨s.num + 1, u, v, delA Pay.id s.pays x, s.holds⟩
  have hsub := delA_sub Pay.id s.pays x
  exact gd_mk h0 (by omega) (by omega) (payL_sub hpl hsub) hh (fun p hp => ok4 p (hsub.subset hp)) ok5 (by omega) (by omega)
theorem falS_gd {s : Sta} {x : Int} (hs : s.ok) (h : (falS s x).2 = 0) : Gd s (falS s x).1 := by
  unfold falS at h ⊢
  split at h
  · rename_i h1; exact absurd h h1
  rename_i h1
  rw [if_neg h1]
  have ht : (takS s x).2.2 = 0 := Classical.not_not.1 h1
  obtain ⟨_, _, _, _, _, h7⟩ := takS_gd ht
  exact back_gd hs ht (by split <;> omega) (by split <;> omega) (by split <;> omega)
theorem setS_gd {s : Sta} {x : Int} {b : List UInt8} (hs : s.ok) (h : (setS s x b).2 = 0) : Gd s (setS s x b).1 := by
  unfold setS at h ⊢
  split at h
  · rename_i h1; exact absurd h h1
  rename_i h1
  rw [if_neg h1]
  split at h
  · simp at h
  rename_i h2
  rw [if_neg h2]
  have ht : (takS s x).2.2 = 0 := Classical.not_not.1 h1
  obtain ⟨_, _, _, _, _, h7⟩ := takS_gd ht
  exact back_gd hs ht (by split <;> omega) (by split <;> omega) (by split <;> omega)
theorem keeS_gd {s : Sta} {who : Int} {q : Hol} (hs : s.ok) (hq : q.ok) (h : (keeS s who q).2 = 0) : Gd s (keeS s who q).1 := by
  unfold keeS at h ⊢
  split at h
  · simp at h
  rename_i h1
  have h0 := nxt_zero h1
  obtain ⟨hr, hpl, hh, htot⟩ := mayS_t h0.1
  obtain ⟨ok1, ok2, ok3, ok4, ok5, ok6, ok7⟩ := id hs
  obtain ⟨q1, q2, _⟩ := holL_iff.1 hh
  have hto : total s = s.h0 + s.h1 + sumP s.pays + sumH s.holds := rfl
  rw [if_neg h1]
  split at h
  · simp at h
  rename_i c1
  split at h
  · simp at h
  rename_i c2
  split at h
  · simp at h
  rename_i c3
  split at h
  · simp at h
  rename_i c4
  split at h
  · simp at h
  rename_i c5
  split at h
  · simp at h
  rename_i c6
  rw [if_neg c1, if_neg c2, if_neg c3, if_neg c4, if_neg c5, if_neg c6]
  have hm : mayH q = true := by simpa using c3
  have hf : fndI (s.holds.map Hol.id) q.id = false := by simpa using c4
  have hs1 : sumH (insA Hol.id s.holds q) = sumH s.holds + q.am := sum_ins Hol.id (·.am) s.holds q
  have hl1 : (insA Hol.id s.holds q).length = s.holds.length + 1 := len_ins Hol.id s.holds q
  have hpi : holL none (insA Hol.id s.holds q) = true := holL_iff.2 ⟨fun b hb => by
      rcases mem_ins (f := Hol.id) hb with rfl | hb
      · exact hm
      · exact q1 b hb, by
      rw [map_ins]
      exact pw_ins q2 hf, fun q hq => by simp at hq⟩
  unfold sideS at c6
  refine gd_mk h0 ?_ ?_ hpl hpi ok4 ?_ (by omega) ?_
  · split
    · rename_i e; rw [if_pos e] at c6; omega
    · omega
  · split
    · omega
    · rename_i e; rw [if_neg e] at c6; omega
  · intro b hb
    rcases mem_ins (f := Hol.id) hb with rfl | hb
    · exact hq
    · exact ok5 b hb
  · rw [hs1]; split <;> omega
theorem freS_gd {s : Sta} {x a : Int} (hs : s.ok) (h : (freS s x a).2 = 0) : Gd s (freS s x a).1 := by
  unfold freS at h ⊢
  split at h
  · simp at h
  rename_i h1
  have h0 := nxt_zero h1
  obtain ⟨hr, hpl, hh, htot⟩ := mayS_t h0.1
  obtain ⟨ok1, ok2, ok3, ok4, ok5, ok6, ok7⟩ := id hs
  have hto : total s = s.h0 + s.h1 + sumP s.pays + sumH s.holds := rfl
  rw [if_neg h1]
  split at h
  · simp at h
  rename_i b hb
  split at h
  · simp at h
  rename_i c1
  split at h
  · simp at h
  rename_i c2
  rw [if_neg c1, if_neg c2]
  have hsub := delA_sub Hol.id s.holds x
  have e : sumH (delA Hol.id s.holds x) = sumH s.holds - b.am := sum_del (f := Hol.id) (·.am) hb
  have hl := len_del (f := Hol.id) hb
  exact gd_mk h0 (by omega) (by omega) hpl (holL_sub hh hsub) ok4 (fun p hp => ok5 p (hsub.subset hp)) (by omega) (by omega)

end Go.Proofs.YtpilpjameifcfaaGreatDoor

namespace Go.Proofs.YtpilpjameifcfaaGreatDoor
open Go Go.EW
set_option linter.unusedSimpArgs false
set_option linter.unusedVariables false

@[simp] def l_SCheck_1 (_ : Unit) : List EOp := [⟨0, (some 1), none, (.q (.box 39 (.t 0))), []⟩, ⟨1, (some 2), none, (.q (.mov (.k .nilIface))), []⟩]
@[simp] def b_SCheck_2 (_ : Unit) : EB := reg0 (hid l_SCheck_1) 2
@[simp] def l_SCheck_3 (_ : Unit) : List EOp := [⟨0, (some 3), none, (.q (.lda 5 (.t 1))), []⟩, ⟨1, (some 4), none, (.call 55 [(.t 3)]), []⟩, ⟨2, (some 5), none, (.q (.un .not (.t 4))), []⟩]
@[simp] def b_SCheck_4 (_ : Unit) : EB := reg0 (hid l_SCheck_3) 3
@[simp] def l_SCheck_5 (_ : Unit) : List EOp := [⟨0, (some 6), none, (.q (.mki 77 (.k (.int .i64 1)))), []⟩, ⟨1, (some 2), none, (.q (.mov (.t 6))), []⟩]
@[simp] def b_SCheck_6 (_ : Unit) : EB := reg0 (hid l_SCheck_5) 2
@[simp] def b_SCheck_7 (_ : Unit) : EB := .seq (hid b_SCheck_6) .ret
@[simp] def b_SCheck_8 (_ : Unit) : EB := .cond (.t 5) (hid b_SCheck_7) .skip
@[simp] def b_SCheck_9 (_ : Unit) : EB := .seq (hid b_SCheck_4) (hid b_SCheck_8)
@[simp] def l_SCheck_10 (_ : Unit) : List EOp := [⟨0, (some 2), none, (.q (.mov (.k .nilIface))), []⟩]
@[simp] def b_SCheck_11 (_ : Unit) : EB := reg0 (hid l_SCheck_10) 1
@[simp] def b_SCheck_12 (_ : Unit) : EB := .seq (hid b_SCheck_11) .ret
@[simp] def b_SCheck_13 (_ : Unit) : EB := .seq (hid b_SCheck_9) (hid b_SCheck_12)
@[simp] def b_SCheck_14 (_ : Unit) : EB := .seq (hid b_SCheck_2) (hid b_SCheck_13)
def c_SCheck : EB × List QOp × Nat := ((hid b_SCheck_14), [(.mov (.t 2))], 7)
theorem k_SCheck : cfun Tryz.prog 23 = some c_SCheck := by kernel_rfl


/-- What is said of a state without payments and holds is said of one whose slices are nil. -/
theorem ecalls_nlS {P : Program} {f : FuncId} {e1 e2 : Nat} {a b c : EC} {rest : List EV} {H : List EO} {post : EV → List (Option EO) → Prop} (h : ECalls P f (.v (.agg [a, b, c, .fz (.sl e1 []), .fz (.sl e2 [])]) :: rest) H post) :
    ECalls P f (.v (.agg [a, b, c, .fz (.lit (.slice none 0 0)), .fz (.lit (.slice none 0 0))]) :: rest) H post := by
  intro ρ Φ w vals r ha
  refine h ρ Φ w vals r ?_
  obtain ⟨u, us, rfl, h1, h2⟩ := ha.cons_left
  refine All2.cons ?_ h2
  obtain ⟨vs, rfl, hv⟩ := h1
  refine ⟨vs, rfl, by simpa using hv.1, ?_⟩
  intro i x y hx hy
  rcases i with _ | _ | _ | _ | _ | i
  · exact hv.2 0 x y hx hy
  · exact hv.2 1 x y hx hy
  · exact hv.2 2 x y hx hy
  · have := hv.2 3 _ y rfl hy
    simp at hx; subst hx
    exact nl_vr this
  · have := hv.2 4 _ y rfl hy
    simp at hx; subst hx
    exact nl_vr this
  · simp at hx

theorem SCheck_ok (s : Sta) (hs : s.ok) : ECalls Tryz.prog 23 [SV s] [] fun y H' => H' = [] ∧ y = .lit (if mayS s then .nilIface else errV 1) := by
  refine ecalls k_SCheck ?_
  simp [c_SCheck, SV, staC]
  refine call0 (Smay_ok s hs) (by simp [Ptr, I, EV.lit, SV, staC, SE]) ?_
  rintro y H' ⟨rfl, rfl⟩
  refine ⟨.inl (by simp [Ptr, I, EV.lit, SV, staC, SE]), le_ok rfl, ?_⟩
  simp [Ptr, I, EV.lit, SV, staC, SE]
  cases hm : mayS s
  · simp
    exact fin [] (by decide) rfl rfl rfl ⟨rfl, rfl⟩
  · simp
    exact fin [] (by decide) rfl rfl rfl ⟨rfl, rfl⟩

end Go.Proofs.YtpilpjameifcfaaGreatDoor

namespace Go.Proofs.YtpilpjameifcfaaGreatDoor
open Go Go.EW
set_option linter.unusedSimpArgs false
set_option linter.unusedVariables false

@[simp] def l_Encode_1 (_ : Unit) : List EOp := [⟨0, (some 1), none, (.q (.box 39 (.t 0))), []⟩, ⟨1, (some 2), none, (.q (.mov (.k (.slice none 0 0)))), []⟩]
@[simp] def b_Encode_2 (_ : Unit) : EB := reg0 (hid l_Encode_1) 2
@[simp] def l_Encode_3 (_ : Unit) : List EOp := [⟨0, (some 9), none, (.call 35 []), []⟩, ⟨1, (some 3), none, (.q (.alloc 91 [(.pointer none)])), []⟩, ⟨2, none, none, (.sto 1 (.t 3) (.t 9)), []⟩]
@[simp] def b_Encode_4 (_ : Unit) : EB := reg0 (hid l_Encode_3) 3
@[simp] def l_Encode_5 (_ : Unit) : List EOp := [⟨0, (some 10), none, (.q (.mkf 36 [(.t 3)])), []⟩, ⟨1, (some 4), none, (.q (.mov (.t 10))), []⟩]
@[simp] def b_Encode_6 (_ : Unit) : EB := reg0 (hid l_Encode_5) 2
@[simp] def l_Encode_9 (_ : Unit) : List EOp := [⟨12, (some 23), none, (.q (.bsl 1 [(.int .i64 0)] 4 [(0, (.t 13)), (1, (.t 16)), (2, (.t 19)), (3, (.t 22))])), []⟩, ⟨13, (some 24), none, (.clo (.t 11) [(.t 23)]), []⟩]
@[simp] def l_Encode_8 (_ : Unit) : List EOp := ⟨6, (some 17), none, (.q (.fad 1 (.t 1))), []⟩ :: ⟨7, (some 18), none, (.q (.iad 2 1 (.t 17) (.k (.int .i64 1)))), []⟩ :: ⟨8, (some 19), none, (.q (.ldc (.t 18))), []⟩ :: ⟨9, (some 20), none, (.q (.fad 3 (.t 1))), []⟩ :: ⟨10, (some 21), none, (.q (.ldc (.t 20))), []⟩ :: ⟨11, (some 22), none, (.q (.len (.t 21))), []⟩ :: hid l_Encode_9
@[simp] def l_Encode_7 (_ : Unit) : List EOp := ⟨0, (some 11), none, (.q (.mov (.t 4))), []⟩ :: ⟨1, (some 12), none, (.q (.fad 0 (.t 1))), []⟩ :: ⟨2, (some 13), none, (.q (.ldc (.t 12))), []⟩ :: ⟨3, (some 14), none, (.q (.fad 1 (.t 1))), []⟩ :: ⟨4, (some 15), none, (.q (.iad 2 1 (.t 14) (.k (.int .i64 0)))), []⟩ :: ⟨5, (some 16), none, (.q (.ldc (.t 15))), []⟩ :: hid l_Encode_8
@[simp] def b_Encode_10 (_ : Unit) : EB := reg0 (hid l_Encode_7) 14
@[simp] def l_Encode_11 (_ : Unit) : List EOp := [⟨0, (some 25), none, (.q (.fad 3 (.t 1))), []⟩, ⟨1, (some 26), none, (.q (.ldc (.t 25))), []⟩, ⟨2, (some 27), none, (.q (.len (.t 26))), []⟩, ⟨3, (some 28), none, (.q (.mov (.k (.int .i64 0)))), []⟩]
@[simp] def b_Encode_12 (_ : Unit) : EB := reg0 (hid l_Encode_11) 4
@[simp] def l_Encode_13 (_ : Unit) : List EOp := [⟨0, (some 29), none, (.q (.bin .lss (.t 28) (.t 27))), []⟩]
@[simp] def b_Encode_14 (_ : Unit) : EB := reg0 (hid l_Encode_13) 1
@[simp] def b_Encode_15 (_ : Unit) : EB := .cond (.t 29) .skip (.exit 0)
@[simp] def l_Encode_16 (_ : Unit) : List EOp := [⟨0, (some 30), none, (.q (.isl 36 (.t 26) (.t 28))), []⟩, ⟨1, (some 31), none, (.q (.lda 36 (.t 30))), []⟩, ⟨2, (some 6), none, (.q (.alloc 45 (([(.int .i64 0), (.int .i64 0), (.int .i64 0), (.int .i64 0)] : List Value) ++ zU8))), []⟩, ⟨3, none, none, (.sto 36 (.t 6) (.t 31)), []⟩]
@[simp] def b_Encode_17 (_ : Unit) : EB := reg0 (hid l_Encode_16) 4
@[simp] def l_Encode_19 (_ : Unit) : List EOp := [⟨6, (some 38), none, (.q (.ldc (.t 37))), []⟩, ⟨7, (some 39), none, (.q (.fad 3 (.t 6))), []⟩, ⟨8, (some 40), none, (.q (.ldc (.t 39))), []⟩, ⟨9, (some 41), none, (.q (.bsl 1 [(.int .i64 0)] 4 [(0, (.t 34)), (1, (.t 36)), (2, (.t 38)), (3, (.t 40))])), []⟩, ⟨10, (some 42), none, (.clo (.t 32) [(.t 41)]), []⟩]
@[simp] def l_Encode_18 (_ : Unit) : List EOp := ⟨0, (some 32), none, (.q (.mov (.t 4))), []⟩ :: ⟨1, (some 33), none, (.q (.fad 0 (.t 6))), []⟩ :: ⟨2, (some 34), none, (.q (.ldc (.t 33))), []⟩ :: ⟨3, (some 35), none, (.q (.fad 1 (.t 6))), []⟩ :: ⟨4, (some 36), none, (.q (.ldc (.t 35))), []⟩ :: ⟨5, (some 37), none, (.q (.fad 2 (.t 6))), []⟩ :: hid l_Encode_19
@[simp] def b_Encode_20 (_ : Unit) : EB := reg0 (hid l_Encode_18) 11
@[simp] def l_Encode_21 (_ : Unit) : List EOp := [⟨0, (some 43), none, (.q (.ldc (.t 3))), []⟩, ⟨1, (some 44), none, (.q (.fad 4 (.t 6))), []⟩, ⟨2, (some 45), none, (.q (.lda 32 (.t 44))), []⟩, ⟨3, (some 46), none, (.call 38 [(.t 43), (.t 45)]), []⟩]
@[simp] def b_Encode_22 (_ : Unit) : EB := reg0 (hid l_Encode_21) 4
@[simp] def b_Encode_23 (_ : Unit) : EB := .seq (hid b_Encode_20) (hid b_Encode_22)
@[simp] def b_Encode_24 (_ : Unit) : EB := .seq (hid b_Encode_17) (hid b_Encode_23)
@[simp] def b_Encode_25 (_ : Unit) : EB := .block 1 (hid b_Encode_24)
@[simp] def l_Encode_26 (_ : Unit) : List EOp := [⟨0, (some 47), none, (.q (.bin .add (.t 28) (.k (.int .i64 1)))), []⟩, ⟨1, (some 28), none, (.q (.mov (.t 47))), []⟩]
@[simp] def b_Encode_27 (_ : Unit) : EB := reg0 (hid l_Encode_26) 2
@[simp] def b_Encode_28 (_ : Unit) : EB := .seq (hid b_Encode_25) (hid b_Encode_27)
@[simp] def b_Encode_29 (_ : Unit) : EB := .seq (hid b_Encode_15) (hid b_Encode_28)
@[simp] def b_Encode_30 (_ : Unit) : EB := .seq (hid b_Encode_14) (hid b_Encode_29)
@[simp] def b_Encode_31 (_ : Unit) : EB := .loop (hid b_Encode_30)
@[simp] def b_Encode_32 (_ : Unit) : EB := .block 0 (hid b_Encode_31)
@[simp] def b_Encode_33 (_ : Unit) : EB := .seq (hid b_Encode_12) (hid b_Encode_32)
@[simp] def l_Encode_34 (_ : Unit) : List EOp := [⟨0, (some 48), none, (.q (.mov (.t 4))), []⟩, ⟨1, (some 49), none, (.q (.fad 4 (.t 1))), []⟩, ⟨2, (some 50), none, (.q (.ldc (.t 49))), []⟩, ⟨3, (some 51), none, (.q (.len (.t 50))), []⟩, ⟨4, (some 52), none, (.q (.bsl 1 [(.int .i64 0)] 1 [(0, (.t 51))])), []⟩, ⟨5, (some 53), none, (.clo (.t 48) [(.t 52)]), []⟩]
@[simp] def b_Encode_35 (_ : Unit) : EB := reg0 (hid l_Encode_34) 6
@[simp] def l_Encode_36 (_ : Unit) : List EOp := [⟨0, (some 54), none, (.q (.fad 4 (.t 1))), []⟩, ⟨1, (some 55), none, (.q (.ldc (.t 54))), []⟩, ⟨2, (some 56), none, (.q (.len (.t 55))), []⟩, ⟨3, (some 57), none, (.q (.mov (.k (.int .i64 0)))), []⟩]
@[simp] def b_Encode_37 (_ : Unit) : EB := reg0 (hid l_Encode_36) 4
@[simp] def l_Encode_38 (_ : Unit) : List EOp := [⟨0, (some 58), none, (.q (.bin .lss (.t 57) (.t 56))), []⟩]
@[simp] def b_Encode_39 (_ : Unit) : EB := reg0 (hid l_Encode_38) 1
@[simp] def b_Encode_40 (_ : Unit) : EB := .cond (.t 58) .skip (.exit 2)
@[simp] def l_Encode_41 (_ : Unit) : List EOp := [⟨0, (some 59), none, (.q (.isl 3 (.t 55) (.t 57))), []⟩, ⟨1, (some 60), none, (.q (.lda 3 (.t 59))), []⟩, ⟨2, (some 8), none, (.q (.alloc 83 [(.int .i64 0), (.int .i64 0), (.slice none 0 0)])), []⟩, ⟨3, none, none, (.fz (.sto 3 (.t 8) (.t 60))), []⟩]
@[simp] def b_Encode_42 (_ : Unit) : EB := reg0 (hid l_Encode_41) 4
@[simp] def l_Encode_44 (_ : Unit) : List EOp := [⟨6, (some 67), none, (.q (.ldc (.t 66))), []⟩, ⟨7, (some 68), none, (.q (.len (.t 67))), []⟩, ⟨8, (some 69), none, (.q (.bsl 1 [(.int .i64 0)] 3 [(0, (.t 63)), (1, (.t 65)), (2, (.t 68))])), []⟩, ⟨9, (some 70), none, (.clo (.t 61) [(.t 69)]), []⟩]
@[simp] def l_Encode_43 (_ : Unit) : List EOp := ⟨0, (some 61), none, (.q (.mov (.t 4))), []⟩ :: ⟨1, (some 62), none, (.q (.fad 0 (.t 8))), []⟩ :: ⟨2, (some 63), none, (.q (.ldc (.t 62))), []⟩ :: ⟨3, (some 64), none, (.q (.fad 1 (.t 8))), []⟩ :: ⟨4, (some 65), none, (.q (.ldc (.t 64))), []⟩ :: ⟨5, (some 66), none, (.q (.fad 2 (.t 8))), []⟩ :: hid l_Encode_44
@[simp] def b_Encode_45 (_ : Unit) : EB := reg0 (hid l_Encode_43) 10
@[simp] def l_Encode_46 (_ : Unit) : List EOp := [⟨0, (some 71), none, (.q (.mov (.t 4))), []⟩, ⟨1, (some 72), none, (.q (.fad 2 (.t 8))), []⟩, ⟨2, (some 73), none, (.q (.ldc (.t 72))), []⟩, ⟨3, (some 74), none, (.clo (.t 71) [(.t 73)]), []⟩]
@[simp] def b_Encode_47 (_ : Unit) : EB := reg0 (hid l_Encode_46) 4
@[simp] def b_Encode_48 (_ : Unit) : EB := .seq (hid b_Encode_45) (hid b_Encode_47)
@[simp] def b_Encode_49 (_ : Unit) : EB := .seq (hid b_Encode_42) (hid b_Encode_48)
@[simp] def b_Encode_50 (_ : Unit) : EB := .block 3 (hid b_Encode_49)
@[simp] def l_Encode_51 (_ : Unit) : List EOp := [⟨0, (some 75), none, (.q (.bin .add (.t 57) (.k (.int .i64 1)))), []⟩, ⟨1, (some 57), none, (.q (.mov (.t 75))), []⟩]
@[simp] def b_Encode_52 (_ : Unit) : EB := reg0 (hid l_Encode_51) 2
@[simp] def b_Encode_53 (_ : Unit) : EB := .seq (hid b_Encode_50) (hid b_Encode_52)
@[simp] def b_Encode_54 (_ : Unit) : EB := .seq (hid b_Encode_40) (hid b_Encode_53)
@[simp] def b_Encode_55 (_ : Unit) : EB := .seq (hid b_Encode_39) (hid b_Encode_54)
@[simp] def b_Encode_56 (_ : Unit) : EB := .loop (hid b_Encode_55)
@[simp] def b_Encode_57 (_ : Unit) : EB := .block 2 (hid b_Encode_56)
@[simp] def b_Encode_58 (_ : Unit) : EB := .seq (hid b_Encode_37) (hid b_Encode_57)
@[simp] def l_Encode_59 (_ : Unit) : List EOp := [⟨0, (some 76), none, (.q (.ldc (.t 3))), []⟩, ⟨1, (some 77), none, (.call 39 [(.t 76)]), []⟩, ⟨2, (some 2), none, (.q (.mov (.t 77))), []⟩]
@[simp] def b_Encode_60 (_ : Unit) : EB := reg0 (hid l_Encode_59) 3
@[simp] def b_Encode_61 (_ : Unit) : EB := .seq (hid b_Encode_60) .ret
@[simp] def b_Encode_62 (_ : Unit) : EB := .seq (hid b_Encode_58) (hid b_Encode_61)
@[simp] def b_Encode_63 (_ : Unit) : EB := .seq (hid b_Encode_35) (hid b_Encode_62)
@[simp] def b_Encode_64 (_ : Unit) : EB := .seq (hid b_Encode_33) (hid b_Encode_63)
@[simp] def b_Encode_65 (_ : Unit) : EB := .seq (hid b_Encode_10) (hid b_Encode_64)
@[simp] def b_Encode_66 (_ : Unit) : EB := .seq (hid b_Encode_6) (hid b_Encode_65)
@[simp] def b_Encode_67 (_ : Unit) : EB := .seq (hid b_Encode_4) (hid b_Encode_66)
@[simp] def b_Encode_68 (_ : Unit) : EB := .seq (hid b_Encode_2) (hid b_Encode_67)
def c_Encode : EB × List QOp × Nat := ((hid b_Encode_68), [(.mov (.t 2))], 78)
theorem k_Encode : cfun Tryz.prog 12 = some c_Encode := by kernel_rfl

@[simp] def l_put_1 (_ : Unit) : List EOp := [⟨0, (some 5), none, (.q (.mov (.t 0))), []⟩, ⟨1, (some 6), none, (.q (.len (.t 5))), []⟩, ⟨2, (some 7), none, (.q (.mov (.k (.int .i64 0)))), []⟩]
@[simp] def b_put_2 (_ : Unit) : EB := reg0 (hid l_put_1) 3
@[simp] def l_put_3 (_ : Unit) : List EOp := [⟨0, (some 8), none, (.q (.bin .lss (.t 7) (.t 6))), []⟩]
@[simp] def b_put_4 (_ : Unit) : EB := reg0 (hid l_put_3) 1
@[simp] def b_put_5 (_ : Unit) : EB := .cond (.t 8) .skip (.exit 0)
@[simp] def l_put_6 (_ : Unit) : List EOp := [⟨0, (some 9), none, (.q (.isl 1 (.t 5) (.t 7))), []⟩, ⟨1, (some 10), none, (.q (.ldc (.t 9))), []⟩, ⟨2, (some 4), none, (.q (.mov (.t 10))), []⟩]
@[simp] def b_put_7 (_ : Unit) : EB := reg0 (hid l_put_6) 3
@[simp] def l_put_8 (_ : Unit) : List EOp := [⟨0, (some 11), none, (.q (.ldc (.t 1))), []⟩, ⟨1, (some 12), none, (.q (.mov (.t 4))), []⟩, ⟨2, (some 13), none, (.q (.cnv .u64 (.t 12))), []⟩, ⟨3, (some 14), none, (.call 37 [(.t 11), (.t 13)]), []⟩]
@[simp] def b_put_9 (_ : Unit) : EB := reg0 (hid l_put_8) 4
@[simp] def b_put_10 (_ : Unit) : EB := .seq (hid b_put_7) (hid b_put_9)
@[simp] def b_put_11 (_ : Unit) : EB := .block 1 (hid b_put_10)
@[simp] def l_put_12 (_ : Unit) : List EOp := [⟨0, (some 15), none, (.q (.bin .add (.t 7) (.k (.int .i64 1)))), []⟩, ⟨1, (some 7), none, (.q (.mov (.t 15))), []⟩]
@[simp] def b_put_13 (_ : Unit) : EB := reg0 (hid l_put_12) 2
@[simp] def b_put_14 (_ : Unit) : EB := .seq (hid b_put_11) (hid b_put_13)
@[simp] def b_put_15 (_ : Unit) : EB := .seq (hid b_put_5) (hid b_put_14)
@[simp] def b_put_16 (_ : Unit) : EB := .seq (hid b_put_4) (hid b_put_15)
@[simp] def b_put_17 (_ : Unit) : EB := .loop (hid b_put_16)
@[simp] def b_put_18 (_ : Unit) : EB := .block 0 (hid b_put_17)
@[simp] def b_put_19 (_ : Unit) : EB := .seq (hid b_put_2) (hid b_put_18)
def c_put : EB × List QOp × Nat := ((hid b_put_19), [], 16)
theorem k_put : cfun Tryz.prog 36 = some c_put := by kernel_rfl


def u64n (n : Int) : Nat := (n % 18446744073709551616).toNat
theorem u64n_lt (n : Int) : u64n n < 18446744073709551616 := by unfold u64n; omega
theorem wrap_u64n (n : Int) : IntKind.u64.wrap n = (u64n n : Int) := by
  simp [IntKind.wrap, IntKind.bits, IntKind.signed, u64n]
  omega
def uB (n : Int) : List UInt8 := uintB (u64n n)
def usB (l : List Int) : List UInt8 := l.flatMap uB
def payB (p : Pay) : List UInt8 := usB [p.id, p.fr, p.am, p.af] ++ p.lock
def holB (h : Hol) : List UInt8 := usB [h.id, h.am, (h.keys.length : Int)] ++ usB h.keys
def encS (s : Sta) : List UInt8 := usB [s.num, s.h0, s.h1, (s.pays.length : Int)] ++ s.pays.flatMap payB ++ usB [(s.holds.length : Int)] ++ s.holds.flatMap holB
theorem uB_len (n : Int) : (uB n).length ≤ 9 := by
  have := nb_8 (u64n_lt n)
  simp [uB, uintB, dg_len]; omega
theorem usB_len : ∀ (l : List Int), (usB l).length ≤ 9 * l.length
  | [] => by simp [usB]
  | n :: r => by
    have h1 := uB_len n
    have h2 := usB_len r
    have : usB (n :: r) = uB n ++ usB r := by simp [usB]
    rw [this, List.length_append, List.length_cons]
    omega
theorem usB_snoc (l : List Int) (n : Int) : usB (l ++ [n]) = usB l ++ uB n := by simp [usB]
def Sta.small (s : Sta) : Prop := s.pays.length ≤ 1000 ∧ s.holds.length ≤ 1000 ∧ ∀ h ∈ s.holds, h.keys.length ≤ 1000
theorem payB_len {p : Pay} (h : p.lock.length = 32) : (payB p).length ≤ 68 := by
  have := usB_len [p.id, p.fr, p.am, p.af]
  simp [payB] at *; omega
theorem holB_len {p : Hol} (h : p.keys.length ≤ 1000) : (holB p).length ≤ 9100 := by
  have h1 := usB_len [p.id, p.am, (p.keys.length : Int)]
  have h2 := usB_len p.keys
  simp [holB] at *; omega
theorem flat_len {α : Type} {f : α → List UInt8} {k : Nat} : ∀ {l : List α}, (∀ x ∈ l, (f x).length ≤ k) → (l.flatMap f).length ≤ k * l.length
  | [], _ => by simp
  | x :: r, h => by
    have h1 := h x (by simp)
    have h2 := flat_len (l := r) (fun y hy => h y (by simp [hy]))
    rw [List.flatMap_cons, List.length_append, List.length_cons, Nat.mul_succ]
    omega

/-- A variable that holds a writer. -/
def PO (r : Nat) : EO := .box 91 [.ptr r 0]
def PutV (o : Nat) : EV := .v (.c (.clo 36 [(o, 0)]))

set_option maxHeartbeats 1000000 in
theorem put_ok (bs : List UInt8) (l : List Int) (hl : l.length ≤ 10000000) (hb : bs.length + 9 * l.length ≤ 800000000) :
    ECalls Tryz.prog 36 [IL l, Ptr 0] [PO 1, WO 2 bs, RO bs] fun y H' => H' = [some (PO 1), some (WO 3 (bs ++ usB l)), none, some (RO (bs ++ usB l))] ∧ y = .tup [] := by
  refine ecalls k_put ?_
  simp [c_put, IL, Ptr]
  refine eloop (α := Nat) (fun i => i ≤ l.length) (fun i => l.length - i)
    (fun i => [.any, Ptr 0, .any, .any, .any, IL l, I .i64 l.length, I .i64 i, .any, .any, .any, .any, .any, .any, .any, .any]) (fun i => [some (PO 1), some (WO 3 (bs ++ usB (l.take i))), none, some (RO (bs ++ usB (l.take i)))]) 0 [0, 1, 2, 2]
    (Nat.zero_le _) (by simp [Ptr, I, IL]) (by simp [PO, WO, RO, usB]) (by simp) (by decide) (by simp) ?_
  intro i hi
  have hle := usB_len (l.take i)
  have hlt' : (l.take i).length = i := by simp; omega
  simp [Ptr, I, IL]
  refine alt (fun hlt => ?_) (fun hlt => ?_)
  · obtain ⟨k, hc⟩ : ∃ k, l[i]? = some k := ⟨l[i], by simp [hlt]⟩
    have hcb := intv_get hc
    have hts : l.take (i + 1) = l.take i ++ [k] := by rw [List.take_add_one, hc]; rfl
    have w1 : IntKind.i64.wrap ((i : Int) + 1) = ((i + 1 : Nat) : Int) := wrap_i64 (by omega) (by omega)
    simp [hcb, PO, wrap_u64n]
    refine callH [1, 3] (WUint_ok (bs ++ usB (l.take i)) (u64n k) (u64n_lt k) (by simp; omega)) (by simp [Ptr, I]) (by simp [WO, RO]) (by simp) (by simp [WO]) (by simp) ?_
    rintro y H' ⟨rfl, rfl⟩
    refine ⟨.inl (by simp), le_ok rfl, ?_⟩
    simp [w1, WO, RO, -Int.natCast_add]
    exact round (i + 1) [0, 1, 2, 116] (by omega) (by omega) (by simp) (by simp [hts, usB_snoc, uB, PO, WO, RO]) (by simp) (by decide) (by simp)
  · have hil : i = l.length := by omega
    subst hil
    simp
    exact fin [3] (by decide) rfl rfl rfl ⟨by simp [PO, WO, RO], rfl⟩

theorem put_body : bodyOK Tryz.prog 36 = true := by kernel_rfl
def pB (l : List Pay) : List UInt8 := l.flatMap payB
def hB (l : List Hol) : List UInt8 := l.flatMap holB
theorem pB_snoc (l : List Pay) (p : Pay) : pB (l ++ [p]) = pB l ++ payB p := by simp [pB]
theorem hB_snoc (l : List Hol) (p : Hol) : hB (l ++ [p]) = hB l ++ holB p := by simp [hB]
def headB (s : Sta) : List UInt8 := usB [s.num, s.h0, s.h1, (s.pays.length : Int)]
def midB (s : Sta) : List UInt8 := headB s ++ pB s.pays ++ usB [(s.holds.length : Int)]
theorem encS_eq (s : Sta) : encS s = midB s ++ hB s.holds := rfl

set_option maxHeartbeats 2000000 in
theorem Encode_ok (s : Sta) (hs : s.ok) (hm : s.small) : ECalls Tryz.prog 12 [SV s] [] fun y H' => H' = [] ∧ y = Bs (encS s) := by
  obtain ⟨ok1, ok2, ok3, ok4, ok5, ok6, ok7⟩ := id hs
  obtain ⟨m1, m2, m3⟩ := hm
  have lh : (headB s).length ≤ 36 := usB_len [s.num, s.h0, s.h1, (s.pays.length : Int)]
  have lp : ∀ i, (pB (s.pays.take i)).length ≤ 68000 := by
    intro i
    have h1 := flat_len (f := payB) (k := 68) (l := s.pays.take i) (fun p hp => payB_len (ok4 p (List.mem_of_mem_take hp)).2.2.2.2)
    have h2 : (s.pays.take i).length ≤ 1000 := by simp; omega
    unfold pB; omega
  have lq : (pB s.pays).length ≤ 68000 := by have := lp s.pays.length; rwa [List.take_length] at this
  have lm : (midB s).length ≤ 70000 := by
    have := usB_len [(s.holds.length : Int)]
    simp only [midB, List.length_append]
    simp only [List.length_cons, List.length_nil] at this
    omega
  have lk : ∀ i, (hB (s.holds.take i)).length ≤ 9100000 := by
    intro i
    have h1 := flat_len (f := holB) (k := 9100) (l := s.holds.take i) (fun p hp => holB_len (m3 p (List.mem_of_mem_take hp)))
    have h2 : (s.holds.take i).length ≤ 1000 := by simp; omega
    unfold hB; omega
  refine ecalls k_Encode ?_
  simp [c_Encode, SV, staC]
  refine call0 New_ok rfl ?_
  rintro y H' ⟨rfl, rfl⟩
  refine ⟨.inl rfl, le_ok rfl, ?_⟩
  simp [Ptr, WO, RO]
  refine ⟨put_body, ?_⟩
  refine callH [48, 32, 33] (put_ok [] [s.num, s.h0, s.h1, (s.pays.length : Int)] (by simp) (by simp)) (by simp [IL, intv, Ptr]) (by simp [PO, WO, RO]) (by simp) (by simp) (by simp) ?_
  rintro y H' ⟨rfl, rfl⟩
  refine ⟨.inl (by simp), le_ok rfl, ?_⟩
  simp [PO, WO, RO]
  refine eloop (α := Nat) (fun i => i ≤ s.pays.length) (fun i => s.pays.length - i)
    (fun i => [.any, Ptr 0, .any, Ptr 1, PutV 1, .any, .any, .any, .any, .any, .any, .any, .any, .any, .any, .any, .any, .any, .any, .any, .any, .any, .any, .any, .any, .any, PL s.pays, I .i64 s.pays.length, I .i64 i, .any, .any, .any, .any, .any, .any, .any, .any, .any, .any, .any, .any, .any, .any, .any, .any, .any, .any, .any, .any, .any, .any, .any, .any, .any, .any, .any, .any, .any, .any, .any, .any, .any, .any, .any, .any, .any, .any, .any, .any, .any, .any, .any, .any, .any, .any, .any, .any, .any]) (fun i => [some (.box 39 (staC s)), some (PO 2), some (WO 3 (headB s ++ pB (s.pays.take i))), some (RO (headB s ++ pB (s.pays.take i)))]) 0 [0, 48, 32, 320]
    (Nat.zero_le _) (by simp [Ptr, I, PL, PutV]) (by simp [PO, WO, RO, pB, headB, staC]) (by simp) (by simp) (by simp) ?_
  intro i hi
  have lpi := lp i
  simp [Ptr, I, PL, PutV, staC]
  refine alt (fun hlt => ?_) (fun hlt => ?_)
  · obtain ⟨p, hc⟩ : ∃ p, s.pays[i]? = some p := ⟨s.pays[i], by simp [hlt]⟩
    have hpo := ok4 p (List.mem_of_getElem? hc)
    have hl32 := hpo.2.2.2.2
    have ht : p.lock.take 32 = p.lock := List.take_of_length_le (by omega)
    have hcb := payv_get hc
    have w2 : IntKind.i64.wrap ((i : Int) + 1) = ((i + 1 : Nat) : Int) := wrap_i64 (by omega) (by omega)
    have l4 := usB_len [p.id, p.fr, p.am, p.af]
    simp only [List.length_cons, List.length_nil] at l4
    simp [hcb, payF, hl32, ht]
    refine ⟨put_body, ?_⟩
    refine callH [1, 2, 3] (put_ok (headB s ++ pB (s.pays.take i)) [p.id, p.fr, p.am, p.af] (by simp) (by simp; omega)) (by simp [IL, intv, Ptr]) (by simp [PO, WO, RO]) (by simp) (by simp [PO, WO]) (by simp) ?_
    rintro y H' ⟨rfl, rfl⟩
    refine ⟨.inl (by simp), le_ok rfl, ?_⟩
    simp [PO, WO, RO, hl32, ht]
    refine callH [2, 244] (WHash_ok (headB s ++ pB (s.pays.take i) ++ usB [p.id, p.fr, p.am, p.af]) p.lock (by simp; omega) hl32) (by simp [Ptr, Ag]) (by simp [WO, RO]) (by simp) (by simp) (by simp) ?_
    rintro y H' ⟨rfl, rfl⟩
    refine ⟨.inl (by simp), le_ok rfl, ?_⟩
    simp [w2, WO, RO, -Int.natCast_add]
    have hsn : pB (s.pays.take (i + 1)) = pB (s.pays.take i) ++ (usB [p.id, p.fr, p.am, p.af] ++ p.lock) := by rw [take_s hc, pB_snoc]; rfl
    exact round (i + 1) [0, 1, 2, 308] (by omega) (by omega) (by simp) (by simp [hsn, PO, WO, RO] <;> omega) (by simp) (by simp) (by simp)
  have hil : i = s.pays.length := by omega
  subst hil
  rw [List.take_length] at lpi ⊢
  simp
  refine ⟨put_body, ?_⟩
  have l1 := usB_len [(s.holds.length : Int)]
  simp only [List.length_cons, List.length_nil] at l1
  refine callH [1, 2, 3] (put_ok (headB s ++ pB s.pays) [(s.holds.length : Int)] (by simp) (by simp; omega)) (by simp [IL, intv, Ptr]) (by simp [PO, WO, RO]) (by simp) (by simp [PO, WO]) (by simp) ?_
  rintro y H' ⟨rfl, rfl⟩
  refine ⟨.inl (by simp), le_ok rfl, ?_⟩
  simp [PO, WO, RO]
  refine eloop (α := Nat) (fun i => i ≤ s.holds.length) (fun i => s.holds.length - i)
    (fun i => [.any, .any, .any, Ptr 0, PutV 0, .any, .any, .any, .any, .any, .any, .any, .any, .any, .any, .any, .any, .any, .any, .any, .any, .any, .any, .any, .any, .any, .any, .any, .any, .any, .any, .any, .any, .any, .any, .any, .any, .any, .any, .any, .any, .any, .any, .any, .any, .any, .any, .any, .any, .any, .any, .any, .any, .any, .any, HL s.holds, I .i64 s.holds.length, I .i64 i, .any, .any, .any, .any, .any, .any, .any, .any, .any, .any, .any, .any, .any, .any, .any, .any, .any, .any, .any, .any]) (fun i => [some (PO 1), some (WO 2 (midB s ++ hB (s.holds.take i))), some (RO (midB s ++ hB (s.holds.take i)))]) 0 [1, 2, 100]
    (Nat.zero_le _) (by simp [Ptr, I, HL, PutV]) (by simp [PO, WO, RO, hB, midB] <;> omega) (by simp) (by simp) (by simp) ?_
  intro i hi
  have lki := lk i
  simp [Ptr, I, HL, PutV]
  refine alt (fun hlt => ?_) (fun hlt => ?_)
  · obtain ⟨p, hc⟩ : ∃ p, s.holds[i]? = some p := ⟨s.holds[i], by simp [hlt]⟩
    have hk := m3 p (List.mem_of_getElem? hc)
    have hcb := holv_get hc
    have w2 : IntKind.i64.wrap ((i : Int) + 1) = ((i + 1 : Nat) : Int) := wrap_i64 (by omega) (by omega)
    have l3 := usB_len [p.id, p.am, (p.keys.length : Int)]
    have l5 := usB_len p.keys
    simp only [List.length_cons, List.length_nil] at l3
    simp [hcb, holF]
    refine ⟨put_body, ?_⟩
    refine callH [0, 1, 2] (put_ok (midB s ++ hB (s.holds.take i)) [p.id, p.am, (p.keys.length : Int)] (by simp) (by simp; omega)) (by simp [IL, intv, Ptr]) (by simp [PO, WO, RO]) (by simp) (by simp [PO, WO]) (by simp) ?_
    rintro y H' ⟨rfl, rfl⟩
    refine ⟨.inl (by simp), le_ok rfl, ?_⟩
    simp [PO, WO, RO]
    refine ⟨put_body, ?_⟩
    refine callH [0, 1, 227] (put_ok (midB s ++ hB (s.holds.take i) ++ usB [p.id, p.am, (p.keys.length : Int)]) p.keys (by omega) (by simp; omega)) (by simp [IL, Ptr]) (by simp [PO, WO, RO]) (by simp) (by simp [PO, WO]) (by simp) ?_
    rintro y H' ⟨rfl, rfl⟩
    refine ⟨.inl (by simp), le_ok rfl, ?_⟩
    simp [w2, PO, WO, RO, -Int.natCast_add]
    have hsn : hB (s.holds.take (i + 1)) = hB (s.holds.take i) ++ (usB [p.id, p.am, (p.keys.length : Int)] ++ usB p.keys) := by rw [take_s hc, hB_snoc]; rfl
    exact round (i + 1) [0, 1, 291] (by omega) (by omega) (by simp) (by simp [hsn, PO, WO, RO] <;> omega) (by simp) (by simp) (by simp)
  have hil : i = s.holds.length := by omega
  subst hil
  rw [List.take_length] at lki ⊢
  simp [PO, WO, RO]
  refine callH [1, 2] (WDone_ok (midB s ++ hB s.holds) (by simp; omega)) (by simp [Ptr]) (by simp [WO, RO]) (by simp) (by simp) (by simp) ?_
  rintro y H' ⟨rfl, rfl⟩
  refine ⟨.inl (by simp), le_ok rfl, ?_⟩
  simp [R, RO, WO]
  refine finW _ (weak_frz (o := 35) (ty := 5) (es := 1) (xs := bsv (midB s ++ hB s.holds)) rfl) ?_
  exact fin [] (by decide) rfl rfl rfl ⟨rfl, by simp [Bs, encS_eq, List.take_of_length_le]⟩

end Go.Proofs.YtpilpjameifcfaaGreatDoor

namespace Go.Proofs.YtpilpjameifcfaaGreatDoor
open Go Go.EW
set_option linter.unusedSimpArgs false

@[simp] def l_digits_1 (_ : Unit) : List EOp := [⟨0, (some 2), none, (.q (.mov (.k (.slice none 0 0)))), []⟩]
@[simp] def b_digits_2 (_ : Unit) : EB := reg0 (hid l_digits_1) 1
@[simp] def l_digits_3 (_ : Unit) : List EOp := [⟨0, (some 3), none, (.q (.mov (.k (.slice none 0 0)))), []⟩]
@[simp] def b_digits_4 (_ : Unit) : EB := reg0 (hid l_digits_3) 1
@[simp] def l_digits_5 (_ : Unit) : List EOp := [⟨0, (some 5), none, (.q (.mov (.t 0))), []⟩, ⟨1, (some 6), none, (.q (.bin .gtr (.t 5) (.k (.int .u64 0)))), []⟩]
@[simp] def b_digits_6 (_ : Unit) : EB := reg0 (hid l_digits_5) 2
@[simp] def b_digits_7 (_ : Unit) : EB := .cond (.t 6) .skip (.exit 0)
@[simp] def b_digits_8 (_ : Unit) : EB := .seq (hid b_digits_6) (hid b_digits_7)
@[simp] def l_digits_9 (_ : Unit) : List EOp := [⟨0, (some 4), none, (.q (.mov (.k (.slice none 0 0)))), []⟩]
@[simp] def b_digits_10 (_ : Unit) : EB := reg0 (hid l_digits_9) 1
@[simp] def l_digits_12 (_ : Unit) : List EOp := [⟨6, (some 13), none, (.q (.mov (.t 3))), []⟩, ⟨7, (some 14), none, (.app 5 1 1 (.t 12) (.t 13)), []⟩, ⟨8, (some 3), none, (.q (.mov (.t 14))), []⟩]
@[simp] def l_digits_11 (_ : Unit) : List EOp := ⟨0, (some 7), none, (.q (.mov (.t 4))), []⟩ :: ⟨1, (some 8), none, (.q (.mov (.t 0))), []⟩ :: ⟨2, (some 9), none, (.q (.bin .rem (.t 8) (.k (.int .u64 256)))), []⟩ :: ⟨3, (some 10), none, (.q (.cnv .u8 (.t 9))), []⟩ :: ⟨4, (some 11), none, (.q (.bsl 1 [(.int .u8 0)] 1 [(0, (.t 10))])), []⟩ :: ⟨5, (some 12), none, (.app 5 1 1 (.t 7) (.t 11)), []⟩ :: hid l_digits_12
@[simp] def b_digits_13 (_ : Unit) : EB := reg0 (hid l_digits_11) 9
@[simp] def l_digits_14 (_ : Unit) : List EOp := [⟨0, (some 15), none, (.q (.mov (.t 0))), []⟩, ⟨1, (some 16), none, (.q (.bin .quo (.t 15) (.k (.int .u64 256)))), []⟩, ⟨2, (some 0), none, (.q (.mov (.t 16))), []⟩]
@[simp] def b_digits_15 (_ : Unit) : EB := reg0 (hid l_digits_14) 3
@[simp] def b_digits_16 (_ : Unit) : EB := .seq (hid b_digits_13) (hid b_digits_15)
@[simp] def b_digits_17 (_ : Unit) : EB := .seq (hid b_digits_10) (hid b_digits_16)
@[simp] def b_digits_18 (_ : Unit) : EB := .block 1 (hid b_digits_17)
@[simp] def b_digits_19 (_ : Unit) : EB := .seq (hid b_digits_8) (hid b_digits_18)
@[simp] def b_digits_20 (_ : Unit) : EB := .loop (hid b_digits_19)
@[simp] def b_digits_21 (_ : Unit) : EB := .block 0 (hid b_digits_20)
@[simp] def l_digits_22 (_ : Unit) : List EOp := [⟨0, (some 17), none, (.q (.mov (.t 3))), []⟩, ⟨1, (some 2), none, (.q (.mov (.t 17))), []⟩]
@[simp] def b_digits_23 (_ : Unit) : EB := reg0 (hid l_digits_22) 2
@[simp] def b_digits_24 (_ : Unit) : EB := .seq (hid b_digits_23) .ret
@[simp] def b_digits_25 (_ : Unit) : EB := .seq (hid b_digits_21) (hid b_digits_24)
@[simp] def b_digits_26 (_ : Unit) : EB := .seq (hid b_digits_4) (hid b_digits_25)
@[simp] def b_digits_27 (_ : Unit) : EB := .seq (hid b_digits_2) (hid b_digits_26)
def c_digits : EB × List QOp × Nat := ((hid b_digits_27), [(.mov (.t 2))], 18)
theorem k_digits : cfun Tryz.prog 84 = some c_digits := by kernel_rfl

@[simp] def l_own_1 (_ : Unit) : List EOp := [⟨0, (some 2), none, (.q (.mov (.k (.slice none 0 0)))), []⟩]
@[simp] def b_own_2 (_ : Unit) : EB := reg0 (hid l_own_1) 1
@[simp] def l_own_3 (_ : Unit) : List EOp := [⟨0, (some 3), none, (.q (.mov (.k (.slice none 0 0)))), []⟩]
@[simp] def b_own_4 (_ : Unit) : EB := reg0 (hid l_own_3) 1
@[simp] def l_own_5 (_ : Unit) : List EOp := [⟨0, (some 4), none, (.q (.mov (.t 3))), []⟩, ⟨1, (some 5), none, (.q (.mov (.t 0))), []⟩, ⟨2, (some 6), none, (.app 5 1 1 (.t 4) (.t 5)), []⟩, ⟨3, (some 2), none, (.q (.mov (.t 6))), []⟩]
@[simp] def b_own_6 (_ : Unit) : EB := reg0 (hid l_own_5) 4
@[simp] def b_own_7 (_ : Unit) : EB := .seq (hid b_own_6) .ret
@[simp] def b_own_8 (_ : Unit) : EB := .seq (hid b_own_4) (hid b_own_7)
@[simp] def b_own_9 (_ : Unit) : EB := .seq (hid b_own_2) (hid b_own_8)
def c_own : EB × List QOp × Nat := ((hid b_own_9), [(.mov (.t 2))], 7)
theorem k_own : cfun Tryz.prog 85 = some c_own := by kernel_rfl

@[simp] def l_RUint_1 (_ : Unit) : List EOp := [⟨0, (some 4), none, (.q (.mov (.k (.slice none 0 0)))), []⟩]
@[simp] def b_RUint_2 (_ : Unit) : EB := reg0 (hid l_RUint_1) 1
@[simp] def l_RUint_3 (_ : Unit) : List EOp := [⟨0, (some 6), none, (.q (.mov (.t 1))), []⟩, ⟨1, (some 7), none, (.call 84 [(.t 6)]), []⟩, ⟨2, (some 5), none, (.q (.mov (.t 7))), []⟩]
@[simp] def b_RUint_4 (_ : Unit) : EB := reg0 (hid l_RUint_3) 3
@[simp] def l_RUint_6 (_ : Unit) : List EOp := [⟨6, (some 14), none, (.app 5 1 1 (.t 9) (.t 13)), []⟩, ⟨7, (some 15), none, (.q (.mov (.t 5))), []⟩, ⟨8, (some 16), none, (.app 5 1 1 (.t 14) (.t 15)), []⟩, ⟨9, (some 4), none, (.q (.mov (.t 16))), []⟩]
@[simp] def l_RUint_5 (_ : Unit) : List EOp := ⟨0, (some 8), none, (.q (.mov (.t 0))), []⟩ :: ⟨1, (some 9), none, (.call 85 [(.t 8)]), []⟩ :: ⟨2, (some 10), none, (.q (.mov (.t 5))), []⟩ :: ⟨3, (some 11), none, (.q (.len (.t 10))), []⟩ :: ⟨4, (some 12), none, (.q (.cnv .u8 (.t 11))), []⟩ :: ⟨5, (some 13), none, (.q (.bsl 1 [(.int .u8 0)] 1 [(0, (.t 12))])), []⟩ :: hid l_RUint_6
@[simp] def b_RUint_7 (_ : Unit) : EB := reg0 (hid l_RUint_5) 10
@[simp] def b_RUint_8 (_ : Unit) : EB := .seq (hid b_RUint_7) .ret
@[simp] def b_RUint_9 (_ : Unit) : EB := .seq (hid b_RUint_4) (hid b_RUint_8)
@[simp] def b_RUint_10 (_ : Unit) : EB := .seq (hid b_RUint_2) (hid b_RUint_9)
def c_RUint : EB × List QOp × Nat := ((hid b_RUint_10), [(.mov (.t 4))], 17)
theorem k_RUint : cfun Tryz.prog 40 = some c_RUint := by kernel_rfl

@[simp] def l_RInt_1 (_ : Unit) : List EOp := [⟨0, (some 4), none, (.q (.mov (.k (.slice none 0 0)))), []⟩]
@[simp] def b_RInt_2 (_ : Unit) : EB := reg0 (hid l_RInt_1) 1
@[simp] def l_RInt_3 (_ : Unit) : List EOp := [⟨0, (some 9), none, (.q (.mov (.t 1))), []⟩, ⟨1, (some 10), none, (.q (.bin .geq (.t 9) (.k (.int .i64 0)))), []⟩]
@[simp] def b_RInt_4 (_ : Unit) : EB := reg0 (hid l_RInt_3) 2
@[simp] def l_RInt_5 (_ : Unit) : List EOp := [⟨0, (some 11), none, (.q (.mov (.t 1))), []⟩, ⟨1, (some 12), none, (.q (.cnv .u64 (.t 11))), []⟩, ⟨2, (some 13), none, (.call 84 [(.t 12)]), []⟩, ⟨3, (some 5), none, (.q (.mov (.t 13))), []⟩]
@[simp] def b_RInt_6 (_ : Unit) : EB := reg0 (hid l_RInt_5) 4
@[simp] def l_RInt_8 (_ : Unit) : List EOp := [⟨6, (some 20), none, (.q (.bsl 1 [(.int .u8 0)] 1 [(0, (.t 19))])), []⟩, ⟨7, (some 21), none, (.app 5 1 1 (.t 15) (.t 20)), []⟩, ⟨8, (some 22), none, (.q (.mov (.t 5))), []⟩, ⟨9, (some 23), none, (.app 5 1 1 (.t 21) (.t 22)), []⟩, ⟨10, (some 4), none, (.q (.mov (.t 23))), []⟩]
@[simp] def l_RInt_7 (_ : Unit) : List EOp := ⟨0, (some 14), none, (.q (.mov (.t 0))), []⟩ :: ⟨1, (some 15), none, (.call 85 [(.t 14)]), []⟩ :: ⟨2, (some 16), none, (.q (.mov (.t 5))), []⟩ :: ⟨3, (some 17), none, (.q (.len (.t 16))), []⟩ :: ⟨4, (some 18), none, (.q (.bin .add (.k (.int .i64 128)) (.t 17))), []⟩ :: ⟨5, (some 19), none, (.q (.cnv .u8 (.t 18))), []⟩ :: hid l_RInt_8
@[simp] def b_RInt_9 (_ : Unit) : EB := reg0 (hid l_RInt_7) 11
@[simp] def b_RInt_10 (_ : Unit) : EB := .seq (hid b_RInt_9) .ret
@[simp] def b_RInt_11 (_ : Unit) : EB := .seq (hid b_RInt_6) (hid b_RInt_10)
@[simp] def b_RInt_12 (_ : Unit) : EB := .cond (.t 10) (hid b_RInt_11) .skip
@[simp] def b_RInt_13 (_ : Unit) : EB := .seq (hid b_RInt_4) (hid b_RInt_12)
@[simp] def l_RInt_14 (_ : Unit) : List EOp := [⟨0, (some 24), none, (.q (.mov (.t 1))), []⟩, ⟨1, (some 25), none, (.q (.bin .add (.t 24) (.k (.int .i64 1)))), []⟩, ⟨2, (some 26), none, (.q (.un .neg (.t 25))), []⟩, ⟨3, (some 27), none, (.q (.cnv .u64 (.t 26))), []⟩, ⟨4, (some 28), none, (.call 84 [(.t 27)]), []⟩, ⟨5, (some 6), none, (.q (.mov (.t 28))), []⟩]
@[simp] def b_RInt_15 (_ : Unit) : EB := reg0 (hid l_RInt_14) 6
@[simp] def l_RInt_17 (_ : Unit) : List EOp := [⟨6, (some 35), none, (.q (.bsl 1 [(.int .u8 0)] 1 [(0, (.t 34))])), []⟩, ⟨7, (some 36), none, (.app 5 1 1 (.t 30) (.t 35)), []⟩, ⟨8, (some 7), none, (.q (.mov (.t 36))), []⟩]
@[simp] def l_RInt_16 (_ : Unit) : List EOp := ⟨0, (some 29), none, (.q (.mov (.t 0))), []⟩ :: ⟨1, (some 30), none, (.call 85 [(.t 29)]), []⟩ :: ⟨2, (some 31), none, (.q (.mov (.t 6))), []⟩ :: ⟨3, (some 32), none, (.q (.len (.t 31))), []⟩ :: ⟨4, (some 33), none, (.q (.bin .sub (.k (.int .i64 127)) (.t 32))), []⟩ :: ⟨5, (some 34), none, (.q (.cnv .u8 (.t 33))), []⟩ :: hid l_RInt_17
@[simp] def b_RInt_18 (_ : Unit) : EB := reg0 (hid l_RInt_16) 9
@[simp] def l_RInt_19 (_ : Unit) : List EOp := [⟨0, (some 8), none, (.q (.mov (.k (.int .i64 0)))), []⟩]
@[simp] def b_RInt_20 (_ : Unit) : EB := reg0 (hid l_RInt_19) 1
@[simp] def l_RInt_21 (_ : Unit) : List EOp := [⟨0, (some 37), none, (.q (.mov (.t 8))), []⟩, ⟨1, (some 38), none, (.q (.mov (.t 6))), []⟩, ⟨2, (some 39), none, (.q (.len (.t 38))), []⟩, ⟨3, (some 40), none, (.q (.bin .lss (.t 37) (.t 39))), []⟩]
@[simp] def b_RInt_22 (_ : Unit) : EB := reg0 (hid l_RInt_21) 4
@[simp] def b_RInt_23 (_ : Unit) : EB := .cond (.t 40) .skip (.exit 0)
@[simp] def b_RInt_24 (_ : Unit) : EB := .seq (hid b_RInt_22) (hid b_RInt_23)
@[simp] def l_RInt_26 (_ : Unit) : List EOp := [⟨6, (some 49), none, (.q (.bsl 1 [(.int .u8 0)] 1 [(0, (.t 48))])), []⟩, ⟨7, (some 50), none, (.app 5 1 1 (.t 43) (.t 49)), []⟩, ⟨8, (some 7), none, (.q (.mov (.t 50))), []⟩]
@[simp] def l_RInt_25 (_ : Unit) : List EOp := ⟨0, (some 43), none, (.q (.mov (.t 7))), []⟩ :: ⟨1, (some 44), none, (.q (.mov (.t 6))), []⟩ :: ⟨2, (some 45), none, (.q (.mov (.t 8))), []⟩ :: ⟨3, (some 46), none, (.q (.isl 1 (.t 44) (.t 45))), []⟩ :: ⟨4, (some 47), none, (.q (.ldc (.t 46))), []⟩ :: ⟨5, (some 48), none, (.q (.bin .sub (.k (.int .u8 255)) (.t 47))), []⟩ :: hid l_RInt_26
@[simp] def b_RInt_27 (_ : Unit) : EB := reg0 (hid l_RInt_25) 9
@[simp] def b_RInt_28 (_ : Unit) : EB := .block 1 (hid b_RInt_27)
@[simp] def l_RInt_29 (_ : Unit) : List EOp := [⟨0, (some 41), none, (.q (.mov (.t 8))), []⟩, ⟨1, (some 42), none, (.q (.bin .add (.t 41) (.k (.int .i64 1)))), []⟩, ⟨2, (some 8), none, (.q (.mov (.t 42))), []⟩]
@[simp] def b_RInt_30 (_ : Unit) : EB := reg0 (hid l_RInt_29) 3
@[simp] def b_RInt_31 (_ : Unit) : EB := .seq (hid b_RInt_28) (hid b_RInt_30)
@[simp] def b_RInt_32 (_ : Unit) : EB := .seq (hid b_RInt_24) (hid b_RInt_31)
@[simp] def b_RInt_33 (_ : Unit) : EB := .loop (hid b_RInt_32)
@[simp] def b_RInt_34 (_ : Unit) : EB := .block 0 (hid b_RInt_33)
@[simp] def b_RInt_35 (_ : Unit) : EB := .seq (hid b_RInt_20) (hid b_RInt_34)
@[simp] def l_RInt_36 (_ : Unit) : List EOp := [⟨0, (some 51), none, (.q (.mov (.t 7))), []⟩, ⟨1, (some 4), none, (.q (.mov (.t 51))), []⟩]
@[simp] def b_RInt_37 (_ : Unit) : EB := reg0 (hid l_RInt_36) 2
@[simp] def b_RInt_38 (_ : Unit) : EB := .seq (hid b_RInt_37) .ret
@[simp] def b_RInt_39 (_ : Unit) : EB := .seq (hid b_RInt_35) (hid b_RInt_38)
@[simp] def b_RInt_40 (_ : Unit) : EB := .seq (hid b_RInt_18) (hid b_RInt_39)
@[simp] def b_RInt_41 (_ : Unit) : EB := .seq (hid b_RInt_15) (hid b_RInt_40)
@[simp] def b_RInt_42 (_ : Unit) : EB := .seq (hid b_RInt_13) (hid b_RInt_41)
@[simp] def b_RInt_43 (_ : Unit) : EB := .seq (hid b_RInt_2) (hid b_RInt_42)
def c_RInt : EB × List QOp × Nat := ((hid b_RInt_43), [(.mov (.t 4))], 52)
theorem k_RInt : cfun Tryz.prog 54 = some c_RInt := by kernel_rfl

@[simp] def l_RBytes_1 (_ : Unit) : List EOp := [⟨0, (some 4), none, (.q (.mov (.k (.slice none 0 0)))), []⟩]
@[simp] def b_RBytes_2 (_ : Unit) : EB := reg0 (hid l_RBytes_1) 1
@[simp] def l_RBytes_3 (_ : Unit) : List EOp := [⟨0, (some 7), none, (.q (.mov (.t 0))), []⟩, ⟨1, (some 8), none, (.call 85 [(.t 7)]), []⟩, ⟨2, (some 5), none, (.q (.mov (.t 8))), []⟩]
@[simp] def b_RBytes_4 (_ : Unit) : EB := reg0 (hid l_RBytes_3) 3
@[simp] def l_RBytes_5 (_ : Unit) : List EOp := [⟨0, (some 6), none, (.q (.mov (.k (.int .i64 0)))), []⟩]
@[simp] def b_RBytes_6 (_ : Unit) : EB := reg0 (hid l_RBytes_5) 1
@[simp] def l_RBytes_7 (_ : Unit) : List EOp := [⟨0, (some 9), none, (.q (.mov (.t 6))), []⟩, ⟨1, (some 10), none, (.q (.mov (.t 1))), []⟩, ⟨2, (some 11), none, (.q (.len (.t 10))), []⟩, ⟨3, (some 12), none, (.q (.bin .lss (.t 9) (.t 11))), []⟩]
@[simp] def b_RBytes_8 (_ : Unit) : EB := reg0 (hid l_RBytes_7) 4
@[simp] def b_RBytes_9 (_ : Unit) : EB := .cond (.t 12) .skip (.exit 0)
@[simp] def b_RBytes_10 (_ : Unit) : EB := .seq (hid b_RBytes_8) (hid b_RBytes_9)
@[simp] def l_RBytes_12 (_ : Unit) : List EOp := [⟨6, (some 21), none, (.app 5 1 1 (.t 15) (.t 20)), []⟩, ⟨7, (some 5), none, (.q (.mov (.t 21))), []⟩]
@[simp] def l_RBytes_11 (_ : Unit) : List EOp := ⟨0, (some 15), none, (.q (.mov (.t 5))), []⟩ :: ⟨1, (some 16), none, (.q (.mov (.t 1))), []⟩ :: ⟨2, (some 17), none, (.q (.mov (.t 6))), []⟩ :: ⟨3, (some 18), none, (.q (.isl 1 (.t 16) (.t 17))), []⟩ :: ⟨4, (some 19), none, (.q (.ldc (.t 18))), []⟩ :: ⟨5, (some 20), none, (.q (.bsl 1 [(.int .u8 0)] 1 [(0, (.t 19))])), []⟩ :: hid l_RBytes_12
@[simp] def b_RBytes_13 (_ : Unit) : EB := reg0 (hid l_RBytes_11) 8
@[simp] def l_RBytes_14 (_ : Unit) : List EOp := [⟨0, (some 22), none, (.q (.mov (.t 1))), []⟩, ⟨1, (some 23), none, (.q (.mov (.t 6))), []⟩, ⟨2, (some 24), none, (.q (.isl 1 (.t 22) (.t 23))), []⟩, ⟨3, (some 25), none, (.q (.ldc (.t 24))), []⟩, ⟨4, (some 26), none, (.q (.bin .eql (.t 25) (.k (.int .u8 0)))), []⟩]
@[simp] def b_RBytes_15 (_ : Unit) : EB := reg0 (hid l_RBytes_14) 5
@[simp] def l_RBytes_16 (_ : Unit) : List EOp := [⟨0, (some 27), none, (.q (.mov (.t 5))), []⟩, ⟨1, (some 28), none, (.q (.bsl 1 [(.int .u8 0)] 1 [(0, (.k (.int .u8 255)))])), []⟩, ⟨2, (some 29), none, (.app 5 1 1 (.t 27) (.t 28)), []⟩, ⟨3, (some 5), none, (.q (.mov (.t 29))), []⟩]
@[simp] def b_RBytes_17 (_ : Unit) : EB := reg0 (hid l_RBytes_16) 4
@[simp] def b_RBytes_18 (_ : Unit) : EB := .cond (.t 26) (hid b_RBytes_17) .skip
@[simp] def b_RBytes_19 (_ : Unit) : EB := .seq (hid b_RBytes_15) (hid b_RBytes_18)
@[simp] def b_RBytes_20 (_ : Unit) : EB := .seq (hid b_RBytes_13) (hid b_RBytes_19)
@[simp] def b_RBytes_21 (_ : Unit) : EB := .block 1 (hid b_RBytes_20)
@[simp] def l_RBytes_22 (_ : Unit) : List EOp := [⟨0, (some 13), none, (.q (.mov (.t 6))), []⟩, ⟨1, (some 14), none, (.q (.bin .add (.t 13) (.k (.int .i64 1)))), []⟩, ⟨2, (some 6), none, (.q (.mov (.t 14))), []⟩]
@[simp] def b_RBytes_23 (_ : Unit) : EB := reg0 (hid l_RBytes_22) 3
@[simp] def b_RBytes_24 (_ : Unit) : EB := .seq (hid b_RBytes_21) (hid b_RBytes_23)
@[simp] def b_RBytes_25 (_ : Unit) : EB := .seq (hid b_RBytes_10) (hid b_RBytes_24)
@[simp] def b_RBytes_26 (_ : Unit) : EB := .loop (hid b_RBytes_25)
@[simp] def b_RBytes_27 (_ : Unit) : EB := .block 0 (hid b_RBytes_26)
@[simp] def b_RBytes_28 (_ : Unit) : EB := .seq (hid b_RBytes_6) (hid b_RBytes_27)
@[simp] def l_RBytes_29 (_ : Unit) : List EOp := [⟨0, (some 30), none, (.q (.mov (.t 5))), []⟩, ⟨1, (some 31), none, (.q (.bsl 1 [(.int .u8 0)] 2 [(0, (.k (.int .u8 0))), (1, (.k (.int .u8 0)))])), []⟩, ⟨2, (some 32), none, (.app 5 1 1 (.t 30) (.t 31)), []⟩, ⟨3, (some 4), none, (.q (.mov (.t 32))), []⟩]
@[simp] def b_RBytes_30 (_ : Unit) : EB := reg0 (hid l_RBytes_29) 4
@[simp] def b_RBytes_31 (_ : Unit) : EB := .seq (hid b_RBytes_30) .ret
@[simp] def b_RBytes_32 (_ : Unit) : EB := .seq (hid b_RBytes_28) (hid b_RBytes_31)
@[simp] def b_RBytes_33 (_ : Unit) : EB := .seq (hid b_RBytes_4) (hid b_RBytes_32)
@[simp] def b_RBytes_34 (_ : Unit) : EB := .seq (hid b_RBytes_2) (hid b_RBytes_33)
def c_RBytes : EB × List QOp × Nat := ((hid b_RBytes_34), [(.mov (.t 4))], 33)
theorem k_RBytes : cfun Tryz.prog 53 = some c_RBytes := by kernel_rfl

@[simp] def l_RHash_1 (_ : Unit) : List EOp := [⟨0, (some 3), none, (.q (.box 28 (.t 1))), []⟩, ⟨1, (some 4), none, (.q (.mov (.k (.slice none 0 0)))), []⟩]
@[simp] def b_RHash_2 (_ : Unit) : EB := reg0 (hid l_RHash_1) 2
@[simp] def l_RHash_3 (_ : Unit) : List EOp := [⟨0, (some 5), none, (.q (.mov (.t 0))), []⟩, ⟨2, (some 7), none, (.q (.sar 32 (.t 3) none none)), []⟩, ⟨1, (some 6), none, (.call 85 [(.t 5)]), [2]⟩, ⟨3, (some 8), none, (.app 5 1 1 (.t 6) (.t 7)), []⟩, ⟨4, (some 4), none, (.q (.mov (.t 8))), []⟩]
@[simp] def b_RHash_4 (_ : Unit) : EB := reg1 (hid l_RHash_3) 5
@[simp] def b_RHash_5 (_ : Unit) : EB := .seq (hid b_RHash_4) .ret
@[simp] def b_RHash_6 (_ : Unit) : EB := .seq (hid b_RHash_2) (hid b_RHash_5)
def c_RHash : EB × List QOp × Nat := ((hid b_RHash_6), [(.mov (.t 4))], 9)
theorem k_RHash : cfun Tryz.prog 41 = some c_RHash := by kernel_rfl


theorem digits_ok (n : Nat) (h : n < 18446744073709551616) : ECalls Tryz.prog 84 [I .u64 n] [] fun y H' => H' = [some (RO (dg n))] ∧ y = R 0 (dg n) := by
  refine ecalls k_digits ?_
  simp [c_digits, I]
  refine loopW _ (weak_nilR 3 5 1 rfl (by omega)) ?_
  refine eloop (α := Nat × List UInt8) (fun a => a.1 < 18446744073709551616 ∧ a.2.length ≤ 8 ∧ dg a.1 ++ a.2 = dg n) (fun a => a.1)
    (fun a => [I .u64 a.1, .any, .any, R 0 a.2, .any, .any, .any, .any, .any, .any, .any, .any, .any, .any, .any, .any, .any, .any]) (fun a => [some (RO a.2)]) (n, []) [32] ⟨h, by simp, by simp⟩ (by simp [R, I]) (by simp [RO]) (by simp) (by simp) (by simp) ?_
  rintro ⟨k, ds⟩ ⟨hk, hdl, hds⟩
  simp [I, R, RO] at hk hdl hds ⊢
  refine alt (fun hp => ?_) (fun hp => ?_)
  · have h8 := nb_8 h
    have hst := dg_step (n := k) (by omega)
    have hl := congrArg List.length hds
    rw [hst] at hds hl
    simp [dg_len] at hl
    have w1 : IntKind.u8.wrap ((k : Int).tmod 256) = ((b8 k).toNat : Int) := by
      rw [Int.tmod_eq_emod_of_nonneg (by omega), IntKind.wrap_u8, b8_nat]; omega
    have w2 : IntKind.u64.wrap ((k : Int) / 256) = ((k / 256 : Nat) : Int) := by
      rw [wrap_u64 (by omega) (by omega)]; rfl
    simp [w1, w2, -Int.natCast_ediv]
    exact ⟨by omega, round (k / 256, b8 k :: ds) [161] ⟨by simp; omega, by simp; omega, by simpa using hds⟩ (by simp; omega) (by simp; omega) (by simp [bsv, cb]) (by simp) (by simp) (by simp)⟩
  · have : k = 0 := by omega
    subst this
    simp [dg_zero] at hds
    subst hds
    simp
    exact fin [0] (by decide) rfl rfl rfl ⟨rfl, rfl⟩

theorem own_ok (b : List UInt8) (hb : b.length ≤ 1000000000) : ECalls Tryz.prog 85 [Bs b] [] fun y H' => H' = [some (RO b)] ∧ y = R 0 b := by
  refine ecalls k_own ?_
  simp [c_own, Bs]
  exact ⟨by omega, fin [64] (by decide) rfl rfl rfl ⟨rfl, rfl⟩⟩

theorem RUint_ok (b : List UInt8) (n : Nat) (h : n < 18446744073709551616) (hb : b.length ≤ 900000000) : ECalls Tryz.prog 40 [Bs b, I .u64 n] [] fun y H' => H' = [some (RO (b ++ uintB n))] ∧ y = R 0 (b ++ uintB n) := by
  have h8 := nb_8 h
  refine ecalls k_RUint ?_
  simp [c_RUint, I, Bs]
  refine call0 (digits_ok n h) rfl ?_
  rintro y H' ⟨rfl, rfl⟩
  refine ⟨.inl rfl, le_ok rfl, ?_⟩
  simp [R, RO]
  refine call0 (own_ok b (by omega)) rfl ?_
  rintro y H' ⟨rfl, rfl⟩
  refine ⟨.inl rfl, le_ok rfl, ?_⟩
  simp [R, RO]
  exact ⟨by omega, by simp [dg_len]; omega, fin [192] (by decide) rfl rfl rfl ⟨by simp [uintB, dg_len, wrap_u8_nat, bsv, cb], by simp [uintB]; omega⟩⟩

theorem RInt_ok (b : List UInt8) (n : Int) (h0 : -9223372036854775808 ≤ n) (h1 : n ≤ 9223372036854775807) (hb : b.length ≤ 900000000) : ECalls Tryz.prog 54 [Bs b, I .i64 n] [] fun y H' => H' = [some (RO (b ++ intB n))] ∧ y = R 0 (b ++ intB n) := by
  refine ecalls k_RInt ?_
  simp [c_RInt, I, Bs]
  refine alt (fun hn => ?_) (fun hn => ?_)
  · obtain ⟨u, rfl⟩ : ∃ u : Nat, n = u := ⟨n.toNat, by omega⟩
    have h8 := nb_8 (show u < 18446744073709551616 by omega)
    have hi : intB (u : Int) = b8 (128 + nb u) :: dg u := by rw [intB, if_neg (by omega)]; simp
    simp (disch := omega) [wrap_u64]
    refine call0 (digits_ok u (by omega)) rfl ?_
    rintro y H' ⟨rfl, rfl⟩
    refine ⟨.inl rfl, le_ok rfl, ?_⟩
    simp [R, RO]
    refine call0 (own_ok b (by omega)) rfl ?_
    rintro y H' ⟨rfl, rfl⟩
    refine ⟨.inl rfl, le_ok rfl, ?_⟩
    have hk : IntKind.u8.wrap ((128 : Int) + (nb u : Int)) = ((b8 (128 + nb u)).toNat : Int) := by rw [← wrap_u8_nat]; rfl
    have ht : (dg u).take (nb u) = dg u := List.take_of_length_le (by simp [dg_len])
    simp (disch := omega) [R, RO, dg_len, wrap_i64, hk, ht]
    exact ⟨by omega, by omega, fin [256] (by decide) rfl rfl rfl ⟨by simp [hi, dg_len, bsv, cb], by simp [hi, dg_len]; omega⟩⟩
  · obtain ⟨u, hu⟩ : ∃ u : Nat, -1 - n = u := ⟨(-1 - n).toNat, by omega⟩
    have hu' : (-n - 1).toNat = u := by omega
    have h8 := nb_8 (show u < 18446744073709551616 by omega)
    have hi : intB n = b8 (127 - nb u) :: (dg u).map (· ^^^ 255) := by rw [intB, if_pos (by omega), hu']
    have e1 : -(n + 1) = (u : Int) := by omega
    simp (disch := omega) [wrap_i64, wrap_u64, e1]
    refine call0 (digits_ok u (by omega)) rfl ?_
    rintro y H' ⟨rfl, rfl⟩
    refine ⟨.inl rfl, le_ok rfl, ?_⟩
    simp [R, RO]
    refine call0 (own_ok b (by omega)) rfl ?_
    rintro y H' ⟨rfl, rfl⟩
    refine ⟨.inl rfl, le_ok rfl, ?_⟩
    have hdl := dg_len u
    have hk : IntKind.u8.wrap (127 - ((dg u).length : Int)) = ((b8 (127 - nb u)).toNat : Int) := by rw [← wrap_u8_nat]; congr 1; omega
    simp (disch := omega) [R, RO, wrap_i64, hk]
    refine ⟨by omega, ?_⟩
    refine eloop (α := Nat) (fun i => i ≤ (dg u).length) (fun i => (dg u).length - i)
      (fun i => [.any, .any, .any, .any, .any, .any, R 0 (dg u), R 1 (b ++ b8 (127 - nb u) :: ((dg u).map (· ^^^ 255)).take i), I .i64 i, .any, .any, .any, .any, .any, .any, .any, .any, .any, .any, .any, .any, .any, .any, .any, .any, .any, .any, .any, .any, .any, .any, .any, .any, .any, .any, .any, .any, .any, .any, .any, .any, .any, .any, .any, .any, .any, .any, .any, .any, .any, .any, .any]) (fun i => [some (RO (dg u)), some (RO (b ++ b8 (127 - nb u) :: ((dg u).map (· ^^^ 255)).take i))]) 0 [112, 256]
      (by simp) (by simp [R, I]) (by simp [RO, bsv, cb]) (by simp) (by simp) (by simp) ?_
    intro i hi'
    simp [R, RO, I]
    refine alt (fun hp => ?_) (fun hp => ?_)
    · obtain ⟨c, hc⟩ : ∃ c, (dg u)[i]? = some c := ⟨(dg u)[i], by simp [hp]⟩
      have hcb : (bsv (dg u))[i]? = some (cb c) := by simp [bsv, hc]
      have hts := take_snoc (l := (dg u).map (· ^^^ 255)) (i := i) (c := c ^^^ 255) (by simp [hc])
      have w1 : IntKind.i64.wrap ((i : Int) + 1) = ((i + 1 : Nat) : Int) := wrap_i64 (by omega) (by omega)
      simp [hcb, cb, sub255, w1, -Int.natCast_add]
      refine ⟨by omega, by omega, round (i + 1) [0, 178] (by omega) (by omega) ?_ ?_ (by simp) (by simp) (by simp)⟩
      · simp; omega
      · simp [hts, bsv, cb]
    · have : i = (dg u).length := by omega
      subst this
      have ht : ((dg u).map (· ^^^ 255)).take (dg u).length = (dg u).map (· ^^^ 255) := List.take_of_length_le (by simp)
      simp
      exact fin [1] (by decide) rfl rfl rfl ⟨by rw [ht, hi], by simp [hi]⟩

theorem RBytes_ok (b l : List UInt8) (hb : b.length ≤ 900000000) (hl : l.length ≤ 10000000) : ECalls Tryz.prog 53 [Bs b, Bs l] [] fun y H' => H' = [some (RO (b ++ bytesB l))] ∧ y = R 0 (b ++ bytesB l) := by
  refine ecalls k_RBytes ?_
  simp [c_RBytes, Bs]
  refine call0 (own_ok b (by omega)) rfl ?_
  rintro y H' ⟨rfl, rfl⟩
  refine ⟨.inl rfl, le_ok rfl, ?_⟩
  simp [R, RO]
  refine eloop (α := Nat) (fun i => i ≤ l.length) (fun i => l.length - i)
    (fun i => [.any, Bs l, .any, .any, .any, R 0 (b ++ stuffB (l.take i)), I .i64 i, .any, .any, .any, .any, .any, .any, .any, .any, .any, .any, .any, .any, .any, .any, .any, .any, .any, .any, .any, .any, .any, .any, .any, .any, .any, .any]) (fun i => [some (RO (b ++ stuffB (l.take i)))]) 0 [32]
    (Nat.zero_le _) (by simp [Bs, I, R, stuffB]) (by simp [RO, stuffB]) (by simp) (by simp) (by simp) ?_
  intro i hi
  have hle := stuff_len (l.take i)
  have hlt : (l.take i).length = i := by simp; omega
  simp [I, Bs, R, RO]
  refine alt (fun hp => ?_) (fun hp => ?_)
  · obtain ⟨c, hc⟩ : ∃ c, l[i]? = some c := ⟨l[i], by simp [hp]⟩
    have hcb : (bsv l)[i]? = some (cb c) := by simp [bsv, hc]
    have hts := take_snoc hc
    have w1 : IntKind.i64.wrap ((i : Int) + 1) = ((i + 1 : Nat) : Int) := wrap_i64 (by omega) (by omega)
    simp [hcb, cb]
    refine ⟨by omega, alt (fun hz => ?_) (fun hz => ?_)⟩
    · have hc0 : c = 0 := by apply UInt8.toNat_inj.1; simpa using hz
      have hst : stuffB (l.take (i + 1)) = stuffB (l.take i) ++ [0, 255] := by rw [hts, stuff_snoc, if_pos hc0]
      simp [w1, -Int.natCast_add]
      refine ⟨by omega, round (i + 1) [305] (by omega) (by omega) ?_ ?_ (by simp) (by simp) (by simp)⟩
      · simp [hst]; omega
      · subst hc0; simp [hst, bsv, cb]
    · have hc0 : c ≠ 0 := by rintro rfl; exact hz rfl
      have hst : stuffB (l.take (i + 1)) = stuffB (l.take i) ++ [c] := by rw [hts, stuff_snoc, if_neg hc0]
      simp [w1, -Int.natCast_add]
      refine round (i + 1) [161] (by omega) (by omega) ?_ ?_ (by simp) (by simp) (by simp)
      · simp [hst]; omega
      · simp [hst, bsv, cb]
  · have hil : i = l.length := by omega
    subst hil
    simp at hle
    simp
    exact ⟨by omega, fin [97] (by decide) rfl rfl rfl ⟨by simp [bytesB, bsv, cb], by simp [bytesB]; omega⟩⟩

theorem RHash_ok (b h : List UInt8) (hb : b.length ≤ 900000000) (hl : h.length = 32) : ECalls Tryz.prog 41 [Bs b, Ag h] [] fun y H' => H' = [some (RO (b ++ h))] ∧ y = R 0 (b ++ h) := by
  refine ecalls k_RHash ?_
  have ht : h.take 32 = h := List.take_of_length_le (by omega)
  simp [c_RHash, Bs, Ag, ht]
  refine call0 (own_ok b (by omega)) rfl ?_
  rintro y H' ⟨rfl, rfl⟩
  refine ⟨.inl rfl, le_ok rfl, ?_⟩
  simp [R, RO, ht]
  exact ⟨by omega, by omega, fin [80] (by decide) rfl rfl rfl ⟨by simp, by simp⟩⟩

end Go.Proofs.YtpilpjameifcfaaGreatDoor

namespace Go.Proofs.YtpilpjameifcfaaGreatDoor
open Go Go.EW
set_option linter.unusedSimpArgs false
set_option linter.unusedVariables false

@[simp] def l_REncode_1 (_ : Unit) : List EOp := [⟨0, (some 1), none, (.q (.box 26 (.t 0))), []⟩, ⟨1, (some 2), none, (.q (.mov (.k (.slice none 0 0)))), []⟩]
@[simp] def b_REncode_2 (_ : Unit) : EB := reg0 (hid l_REncode_1) 2
@[simp] def l_REncode_5 (_ : Unit) : List EOp := [⟨8, (some 17), none, (.call 40 [(.t 12), (.t 16)]), [9, 10, 11, 12]⟩, ⟨13, (some 22), none, (.call 40 [(.t 17), (.t 21)]), []⟩, ⟨14, (some 3), none, (.q (.mov (.t 22))), []⟩]
@[simp] def l_REncode_4 (_ : Unit) : List EOp := ⟨7, (some 16), none, (.q (.cnv .u64 (.t 15))), []⟩ :: ⟨9, (some 18), none, (.q (.fad 1 (.t 1))), []⟩ :: ⟨10, (some 19), none, (.q (.iad 2 1 (.t 18) (.k (.int .i64 1)))), []⟩ :: ⟨11, (some 20), none, (.q (.ldc (.t 19))), []⟩ :: ⟨12, (some 21), none, (.q (.cnv .u64 (.t 20))), []⟩ :: ⟨3, (some 12), none, (.call 40 [(.k (.slice none 0 0)), (.t 11)]), [4, 5, 6, 7, 9, 10, 11, 12]⟩ :: hid l_REncode_5
@[simp] def l_REncode_3 (_ : Unit) : List EOp := ⟨0, (some 9), none, (.q (.fad 0 (.t 1))), []⟩ :: ⟨1, (some 10), none, (.q (.ldc (.t 9))), []⟩ :: ⟨2, (some 11), none, (.q (.cnv .u64 (.t 10))), []⟩ :: ⟨4, (some 13), none, (.q (.fad 1 (.t 1))), []⟩ :: ⟨5, (some 14), none, (.q (.iad 2 1 (.t 13) (.k (.int .i64 0)))), []⟩ :: ⟨6, (some 15), none, (.q (.ldc (.t 14))), []⟩ :: hid l_REncode_4
@[simp] def b_REncode_6 (_ : Unit) : EB := reg1 (hid l_REncode_3) 15
@[simp] def l_REncode_8 (_ : Unit) : List EOp := [⟨6, (some 3), none, (.q (.mov (.t 28))), []⟩]
@[simp] def l_REncode_7 (_ : Unit) : List EOp := ⟨0, (some 23), none, (.q (.mov (.t 3))), []⟩ :: ⟨1, (some 24), none, (.q (.fad 3 (.t 1))), []⟩ :: ⟨2, (some 25), none, (.q (.ldc (.t 24))), []⟩ :: ⟨3, (some 26), none, (.q (.len (.t 25))), []⟩ :: ⟨4, (some 27), none, (.q (.cnv .u64 (.t 26))), []⟩ :: ⟨5, (some 28), none, (.call 40 [(.t 23), (.t 27)]), []⟩ :: hid l_REncode_8
@[simp] def b_REncode_9 (_ : Unit) : EB := reg0 (hid l_REncode_7) 7
@[simp] def l_REncode_10 (_ : Unit) : List EOp := [⟨0, (some 4), none, (.q (.mov (.k (.int .i64 0)))), []⟩]
@[simp] def b_REncode_11 (_ : Unit) : EB := reg0 (hid l_REncode_10) 1
@[simp] def l_REncode_12 (_ : Unit) : List EOp := [⟨0, (some 29), none, (.q (.mov (.t 4))), []⟩, ⟨1, (some 30), none, (.q (.fad 3 (.t 1))), []⟩, ⟨2, (some 31), none, (.q (.ldc (.t 30))), []⟩, ⟨3, (some 32), none, (.q (.len (.t 31))), []⟩, ⟨4, (some 33), none, (.q (.bin .lss (.t 29) (.t 32))), []⟩]
@[simp] def b_REncode_13 (_ : Unit) : EB := reg0 (hid l_REncode_12) 5
@[simp] def b_REncode_14 (_ : Unit) : EB := .cond (.t 33) .skip (.exit 0)
@[simp] def b_REncode_15 (_ : Unit) : EB := .seq (hid b_REncode_13) (hid b_REncode_14)
@[simp] def l_REncode_17 (_ : Unit) : List EOp := [⟨6, none, none, (.sto 36 (.t 5) (.t 40)), []⟩]
@[simp] def l_REncode_16 (_ : Unit) : List EOp := ⟨0, (some 36), none, (.q (.fad 3 (.t 1))), []⟩ :: ⟨1, (some 37), none, (.q (.ldc (.t 36))), []⟩ :: ⟨2, (some 38), none, (.q (.mov (.t 4))), []⟩ :: ⟨3, (some 39), none, (.q (.isl 36 (.t 37) (.t 38))), []⟩ :: ⟨4, (some 40), none, (.q (.lda 36 (.t 39))), []⟩ :: ⟨5, (some 5), none, (.q (.alloc 30 (([(.int .i64 0), (.int .i64 0), (.int .i64 0), (.int .i64 0)] : List Value) ++ zU8))), []⟩ :: hid l_REncode_17
@[simp] def b_REncode_18 (_ : Unit) : EB := reg0 (hid l_REncode_16) 7
@[simp] def l_REncode_21 (_ : Unit) : List EOp := [⟨15, (some 56), none, (.q (.cnv .u64 (.t 55))), []⟩, ⟨4, (some 45), none, (.call 40 [(.t 41), (.t 44)]), [5, 6, 7, 9, 10, 11, 13, 14, 15]⟩, ⟨8, (some 49), none, (.call 40 [(.t 45), (.t 48)]), [9, 10, 11, 13, 14, 15]⟩, ⟨12, (some 53), none, (.call 40 [(.t 49), (.t 52)]), [13, 14, 15]⟩, ⟨16, (some 57), none, (.call 40 [(.t 53), (.t 56)]), []⟩, ⟨17, (some 3), none, (.q (.mov (.t 57))), []⟩]
@[simp] def l_REncode_20 (_ : Unit) : List EOp := ⟨7, (some 48), none, (.q (.cnv .u64 (.t 47))), []⟩ :: ⟨9, (some 50), none, (.q (.fad 2 (.t 5))), []⟩ :: ⟨10, (some 51), none, (.q (.ldc (.t 50))), []⟩ :: ⟨11, (some 52), none, (.q (.cnv .u64 (.t 51))), []⟩ :: ⟨13, (some 54), none, (.q (.fad 3 (.t 5))), []⟩ :: ⟨14, (some 55), none, (.q (.ldc (.t 54))), []⟩ :: hid l_REncode_21
@[simp] def l_REncode_19 (_ : Unit) : List EOp := ⟨0, (some 41), none, (.q (.mov (.t 3))), []⟩ :: ⟨1, (some 42), none, (.q (.fad 0 (.t 5))), []⟩ :: ⟨2, (some 43), none, (.q (.ldc (.t 42))), []⟩ :: ⟨3, (some 44), none, (.q (.cnv .u64 (.t 43))), []⟩ :: ⟨5, (some 46), none, (.q (.fad 1 (.t 5))), []⟩ :: ⟨6, (some 47), none, (.q (.ldc (.t 46))), []⟩ :: hid l_REncode_20
@[simp] def b_REncode_22 (_ : Unit) : EB := reg1 (hid l_REncode_19) 18
@[simp] def l_REncode_23 (_ : Unit) : List EOp := [⟨0, (some 58), none, (.q (.mov (.t 3))), []⟩, ⟨1, (some 59), none, (.q (.fad 4 (.t 5))), []⟩, ⟨2, (some 60), none, (.q (.lda 32 (.t 59))), []⟩, ⟨3, (some 61), none, (.call 41 [(.t 58), (.t 60)]), []⟩, ⟨4, (some 3), none, (.q (.mov (.t 61))), []⟩]
@[simp] def b_REncode_24 (_ : Unit) : EB := reg0 (hid l_REncode_23) 5
@[simp] def b_REncode_25 (_ : Unit) : EB := .seq (hid b_REncode_22) (hid b_REncode_24)
@[simp] def b_REncode_26 (_ : Unit) : EB := .seq (hid b_REncode_18) (hid b_REncode_25)
@[simp] def b_REncode_27 (_ : Unit) : EB := .block 1 (hid b_REncode_26)
@[simp] def l_REncode_28 (_ : Unit) : List EOp := [⟨0, (some 34), none, (.q (.mov (.t 4))), []⟩, ⟨1, (some 35), none, (.q (.bin .add (.t 34) (.k (.int .i64 1)))), []⟩, ⟨2, (some 4), none, (.q (.mov (.t 35))), []⟩]
@[simp] def b_REncode_29 (_ : Unit) : EB := reg0 (hid l_REncode_28) 3
@[simp] def b_REncode_30 (_ : Unit) : EB := .seq (hid b_REncode_27) (hid b_REncode_29)
@[simp] def b_REncode_31 (_ : Unit) : EB := .seq (hid b_REncode_15) (hid b_REncode_30)
@[simp] def b_REncode_32 (_ : Unit) : EB := .loop (hid b_REncode_31)
@[simp] def b_REncode_33 (_ : Unit) : EB := .block 0 (hid b_REncode_32)
@[simp] def b_REncode_34 (_ : Unit) : EB := .seq (hid b_REncode_11) (hid b_REncode_33)
@[simp] def l_REncode_36 (_ : Unit) : List EOp := [⟨6, (some 3), none, (.q (.mov (.t 67))), []⟩]
@[simp] def l_REncode_35 (_ : Unit) : List EOp := ⟨0, (some 62), none, (.q (.mov (.t 3))), []⟩ :: ⟨1, (some 63), none, (.q (.fad 4 (.t 1))), []⟩ :: ⟨2, (some 64), none, (.q (.ldc (.t 63))), []⟩ :: ⟨3, (some 65), none, (.q (.len (.t 64))), []⟩ :: ⟨4, (some 66), none, (.q (.cnv .u64 (.t 65))), []⟩ :: ⟨5, (some 67), none, (.call 40 [(.t 62), (.t 66)]), []⟩ :: hid l_REncode_36
@[simp] def b_REncode_37 (_ : Unit) : EB := reg0 (hid l_REncode_35) 7
@[simp] def l_REncode_38 (_ : Unit) : List EOp := [⟨0, (some 6), none, (.q (.mov (.k (.int .i64 0)))), []⟩]
@[simp] def b_REncode_39 (_ : Unit) : EB := reg0 (hid l_REncode_38) 1
@[simp] def l_REncode_40 (_ : Unit) : List EOp := [⟨0, (some 68), none, (.q (.mov (.t 6))), []⟩, ⟨1, (some 69), none, (.q (.fad 4 (.t 1))), []⟩, ⟨2, (some 70), none, (.q (.ldc (.t 69))), []⟩, ⟨3, (some 71), none, (.q (.len (.t 70))), []⟩, ⟨4, (some 72), none, (.q (.bin .lss (.t 68) (.t 71))), []⟩]
@[simp] def b_REncode_41 (_ : Unit) : EB := reg0 (hid l_REncode_40) 5
@[simp] def b_REncode_42 (_ : Unit) : EB := .cond (.t 72) .skip (.exit 2)
@[simp] def b_REncode_43 (_ : Unit) : EB := .seq (hid b_REncode_41) (hid b_REncode_42)
@[simp] def l_REncode_45 (_ : Unit) : List EOp := [⟨6, none, none, (.fz (.sto 3 (.t 7) (.t 79))), []⟩]
@[simp] def l_REncode_44 (_ : Unit) : List EOp := ⟨0, (some 75), none, (.q (.fad 4 (.t 1))), []⟩ :: ⟨1, (some 76), none, (.q (.ldc (.t 75))), []⟩ :: ⟨2, (some 77), none, (.q (.mov (.t 6))), []⟩ :: ⟨3, (some 78), none, (.q (.isl 3 (.t 76) (.t 77))), []⟩ :: ⟨4, (some 79), none, (.q (.lda 3 (.t 78))), []⟩ :: ⟨5, (some 7), none, (.q (.alloc 75 [(.int .i64 0), (.int .i64 0), (.slice none 0 0)])), []⟩ :: hid l_REncode_45
@[simp] def b_REncode_46 (_ : Unit) : EB := reg0 (hid l_REncode_44) 7
@[simp] def l_REncode_49 (_ : Unit) : List EOp := [⟨8, (some 88), none, (.call 40 [(.t 84), (.t 87)]), [9, 10, 11, 12]⟩, ⟨13, (some 93), none, (.call 40 [(.t 88), (.t 92)]), []⟩, ⟨14, (some 3), none, (.q (.mov (.t 93))), []⟩]
@[simp] def l_REncode_48 (_ : Unit) : List EOp := ⟨7, (some 87), none, (.q (.cnv .u64 (.t 86))), []⟩ :: ⟨9, (some 89), none, (.q (.fad 2 (.t 7))), []⟩ :: ⟨10, (some 90), none, (.q (.ldc (.t 89))), []⟩ :: ⟨11, (some 91), none, (.q (.len (.t 90))), []⟩ :: ⟨12, (some 92), none, (.q (.cnv .u64 (.t 91))), []⟩ :: ⟨4, (some 84), none, (.call 40 [(.t 80), (.t 83)]), [5, 6, 7, 9, 10, 11, 12]⟩ :: hid l_REncode_49
@[simp] def l_REncode_47 (_ : Unit) : List EOp := ⟨0, (some 80), none, (.q (.mov (.t 3))), []⟩ :: ⟨1, (some 81), none, (.q (.fad 0 (.t 7))), []⟩ :: ⟨2, (some 82), none, (.q (.ldc (.t 81))), []⟩ :: ⟨3, (some 83), none, (.q (.cnv .u64 (.t 82))), []⟩ :: ⟨5, (some 85), none, (.q (.fad 1 (.t 7))), []⟩ :: ⟨6, (some 86), none, (.q (.ldc (.t 85))), []⟩ :: hid l_REncode_48
@[simp] def b_REncode_50 (_ : Unit) : EB := reg1 (hid l_REncode_47) 15
@[simp] def l_REncode_51 (_ : Unit) : List EOp := [⟨0, (some 8), none, (.q (.mov (.k (.int .i64 0)))), []⟩]
@[simp] def b_REncode_52 (_ : Unit) : EB := reg0 (hid l_REncode_51) 1
@[simp] def l_REncode_53 (_ : Unit) : List EOp := [⟨0, (some 94), none, (.q (.mov (.t 8))), []⟩, ⟨1, (some 95), none, (.q (.fad 2 (.t 7))), []⟩, ⟨2, (some 96), none, (.q (.ldc (.t 95))), []⟩, ⟨3, (some 97), none, (.q (.len (.t 96))), []⟩, ⟨4, (some 98), none, (.q (.bin .lss (.t 94) (.t 97))), []⟩]
@[simp] def b_REncode_54 (_ : Unit) : EB := reg0 (hid l_REncode_53) 5
@[simp] def b_REncode_55 (_ : Unit) : EB := .cond (.t 98) .skip (.exit 4)
@[simp] def b_REncode_56 (_ : Unit) : EB := .seq (hid b_REncode_54) (hid b_REncode_55)
@[simp] def l_REncode_58 (_ : Unit) : List EOp := [⟨6, (some 107), none, (.q (.cnv .u64 (.t 106))), []⟩, ⟨7, (some 108), none, (.call 40 [(.t 101), (.t 107)]), []⟩, ⟨8, (some 3), none, (.q (.mov (.t 108))), []⟩]
@[simp] def l_REncode_57 (_ : Unit) : List EOp := ⟨0, (some 101), none, (.q (.mov (.t 3))), []⟩ :: ⟨1, (some 102), none, (.q (.fad 2 (.t 7))), []⟩ :: ⟨2, (some 103), none, (.q (.ldc (.t 102))), []⟩ :: ⟨3, (some 104), none, (.q (.mov (.t 8))), []⟩ :: ⟨4, (some 105), none, (.q (.isl 1 (.t 103) (.t 104))), []⟩ :: ⟨5, (some 106), none, (.q (.ldc (.t 105))), []⟩ :: hid l_REncode_58
@[simp] def b_REncode_59 (_ : Unit) : EB := reg0 (hid l_REncode_57) 9
@[simp] def b_REncode_60 (_ : Unit) : EB := .block 5 (hid b_REncode_59)
@[simp] def l_REncode_61 (_ : Unit) : List EOp := [⟨0, (some 99), none, (.q (.mov (.t 8))), []⟩, ⟨1, (some 100), none, (.q (.bin .add (.t 99) (.k (.int .i64 1)))), []⟩, ⟨2, (some 8), none, (.q (.mov (.t 100))), []⟩]
@[simp] def b_REncode_62 (_ : Unit) : EB := reg0 (hid l_REncode_61) 3
@[simp] def b_REncode_63 (_ : Unit) : EB := .seq (hid b_REncode_60) (hid b_REncode_62)
@[simp] def b_REncode_64 (_ : Unit) : EB := .seq (hid b_REncode_56) (hid b_REncode_63)
@[simp] def b_REncode_65 (_ : Unit) : EB := .loop (hid b_REncode_64)
@[simp] def b_REncode_66 (_ : Unit) : EB := .block 4 (hid b_REncode_65)
@[simp] def b_REncode_67 (_ : Unit) : EB := .seq (hid b_REncode_52) (hid b_REncode_66)
@[simp] def b_REncode_68 (_ : Unit) : EB := .seq (hid b_REncode_50) (hid b_REncode_67)
@[simp] def b_REncode_69 (_ : Unit) : EB := .seq (hid b_REncode_46) (hid b_REncode_68)
@[simp] def b_REncode_70 (_ : Unit) : EB := .block 3 (hid b_REncode_69)
@[simp] def l_REncode_71 (_ : Unit) : List EOp := [⟨0, (some 73), none, (.q (.mov (.t 6))), []⟩, ⟨1, (some 74), none, (.q (.bin .add (.t 73) (.k (.int .i64 1)))), []⟩, ⟨2, (some 6), none, (.q (.mov (.t 74))), []⟩]
@[simp] def b_REncode_72 (_ : Unit) : EB := reg0 (hid l_REncode_71) 3
@[simp] def b_REncode_73 (_ : Unit) : EB := .seq (hid b_REncode_70) (hid b_REncode_72)
@[simp] def b_REncode_74 (_ : Unit) : EB := .seq (hid b_REncode_43) (hid b_REncode_73)
@[simp] def b_REncode_75 (_ : Unit) : EB := .loop (hid b_REncode_74)
@[simp] def b_REncode_76 (_ : Unit) : EB := .block 2 (hid b_REncode_75)
@[simp] def b_REncode_77 (_ : Unit) : EB := .seq (hid b_REncode_39) (hid b_REncode_76)
@[simp] def l_REncode_78 (_ : Unit) : List EOp := [⟨0, (some 109), none, (.q (.mov (.t 3))), []⟩, ⟨1, (some 2), none, (.q (.mov (.t 109))), []⟩]
@[simp] def b_REncode_79 (_ : Unit) : EB := reg0 (hid l_REncode_78) 2
@[simp] def b_REncode_80 (_ : Unit) : EB := .seq (hid b_REncode_79) .ret
@[simp] def b_REncode_81 (_ : Unit) : EB := .seq (hid b_REncode_77) (hid b_REncode_80)
@[simp] def b_REncode_82 (_ : Unit) : EB := .seq (hid b_REncode_37) (hid b_REncode_81)
@[simp] def b_REncode_83 (_ : Unit) : EB := .seq (hid b_REncode_34) (hid b_REncode_82)
@[simp] def b_REncode_84 (_ : Unit) : EB := .seq (hid b_REncode_9) (hid b_REncode_83)
@[simp] def b_REncode_85 (_ : Unit) : EB := .seq (hid b_REncode_6) (hid b_REncode_84)
@[simp] def b_REncode_86 (_ : Unit) : EB := .seq (hid b_REncode_2) (hid b_REncode_85)
def c_REncode : EB × List QOp × Nat := ((hid b_REncode_86), [(.mov (.t 2))], 110)
theorem k_REncode : cfun Tryz.prog 13 = some c_REncode := by kernel_rfl


theorem RUint_nil (n : Nat) (h : n < 18446744073709551616) : ECalls Tryz.prog 40 [.v (.c (.fz (.lit (.slice none 0 0)))), I .u64 n] [] fun y H' => H' = [some (RO (uintB n))] ∧ y = R 0 (uintB n) := ecalls_nil (es := 1) (RUint_ok [] n h (by simp))
theorem usB_cons (n : Int) (l : List Int) : usB (n :: l) = uB n ++ usB l := by simp [usB]
theorem usB_nil : usB [] = [] := rfl
theorem uB_eq (n : Int) : uintB (u64n n) = uB n := rfl
theorem u64n_nat (n : Nat) : (n : Int) = ((n : Nat) : Int) := rfl

set_option maxHeartbeats 2000000 in
theorem REncode_ok (s : Sta) (hs : s.ok) (hm : s.small) : ECalls Tryz.prog 13 [SV s] [] fun y H' => H' = [] ∧ y = Bs (encS s) := by
  obtain ⟨ok1, ok2, ok3, ok4, ok5, ok6, ok7⟩ := id hs
  obtain ⟨m1, m2, m3⟩ := hm
  have lh : (headB s).length ≤ 36 := usB_len [s.num, s.h0, s.h1, (s.pays.length : Int)]
  have lp : ∀ i, (pB (s.pays.take i)).length ≤ 68000 := by
    intro i
    have h1 := flat_len (f := payB) (k := 68) (l := s.pays.take i) (fun p hp => payB_len (ok4 p (List.mem_of_mem_take hp)).2.2.2.2)
    have h2 : (s.pays.take i).length ≤ 1000 := by simp; omega
    unfold pB; omega
  have lq : (pB s.pays).length ≤ 68000 := by have := lp s.pays.length; rwa [List.take_length] at this
  have lm : (midB s).length ≤ 70000 := by
    have := usB_len [(s.holds.length : Int)]
    simp only [midB, List.length_append]
    simp only [List.length_cons, List.length_nil] at this
    omega
  have lk : ∀ i, (hB (s.holds.take i)).length ≤ 9100000 := by
    intro i
    have h1 := flat_len (f := holB) (k := 9100) (l := s.holds.take i) (fun p hp => holB_len (m3 p (List.mem_of_mem_take hp)))
    have h2 : (s.holds.take i).length ≤ 1000 := by simp; omega
    unfold hB; omega
  have hl : ∀ n, (uB n).length ≤ 9 := uB_len
  refine ecalls k_REncode ?_
  simp [c_REncode, SV, staC, wrap_u64n]
  refine call0 (RUint_nil (u64n s.num) (u64n_lt _)) (by simp [I]) ?_
  rintro y H' ⟨rfl, rfl⟩
  refine ⟨.inl (by simp), le_ok rfl, ?_⟩
  simp [R, RO, wrap_u64n, uB_eq]
  refine call0 (RUint_ok (uB s.num) (u64n s.h0) (u64n_lt _) (by have := hl s.num; omega)) (by simp [I, Bs]) ?_
  rintro y H' ⟨rfl, rfl⟩
  refine ⟨.inr ⟨rfl, by simp [RO, bsv, cb]⟩, le_ok rfl, ?_⟩
  simp [R, RO, wrap_u64n, uB_eq]
  refine call0 (RUint_ok (uB s.num ++ uB s.h0) (u64n s.h1) (u64n_lt _) (by have := hl s.num; have := hl s.h0; simp; omega)) (by simp [I, Bs, List.take_of_length_le]) ?_
  rintro y H' ⟨rfl, rfl⟩
  refine ⟨.inr ⟨rfl, by simp [RO, bsv, cb]⟩, le_ok rfl, ?_⟩
  simp [R, RO, wrap_u64n, uB_eq]
  refine call0 (RUint_ok (uB s.num ++ (uB s.h0 ++ uB s.h1)) (u64n (s.pays.length : Int)) (u64n_lt _) (by have := hl s.num; have := hl s.h0; have := hl s.h1; simp; omega)) (by simp [I, Bs, List.take_of_length_le]) ?_
  rintro y H' ⟨rfl, rfl⟩
  refine ⟨.inr ⟨rfl, by simp [RO, bsv, cb]⟩, le_ok rfl, ?_⟩
  have hhead : uB s.num ++ (uB s.h0 ++ (uB s.h1 ++ uB (s.pays.length : Int))) = headB s := by simp [headB, usB_cons, usB_nil]
  simp [R, RO, wrap_u64n, uB_eq, hhead]
  refine eloop (α := Nat) (fun i => i ≤ s.pays.length) (fun i => s.pays.length - i)
    (fun i => [.any, Ptr 0, .any, R 1 (headB s ++ pB (s.pays.take i)), I .i64 i, .any, .any, .any, .any, .any, .any, .any, .any, .any, .any, .any, .any, .any, .any, .any, .any, .any, .any, .any, .any, .any, .any, .any, .any, .any, .any, .any, .any, .any, .any, .any, .any, .any, .any, .any, .any, .any, .any, .any, .any, .any, .any, .any, .any, .any, .any, .any, .any, .any, .any, .any, .any, .any, .any, .any, .any, .any, .any, .any, .any, .any, .any, .any, .any, .any, .any, .any, .any, .any, .any, .any, .any, .any, .any, .any, .any, .any, .any, .any, .any, .any, .any, .any, .any, .any, .any, .any, .any, .any, .any, .any, .any, .any, .any, .any, .any, .any, .any, .any, .any, .any, .any, .any, .any, .any]) (fun i => [some (.box 26 (staC s)), some (RO (headB s ++ pB (s.pays.take i)))]) 0 [0, 352]
    (Nat.zero_le _) (by simp [Ptr, I, R, pB]) (by simp [RO, pB, staC]) (by simp) (by simp) (by simp) ?_
  intro i hi
  have lpi := lp i
  simp [Ptr, I, staC, R, RO]
  refine alt (fun hlt => ?_) (fun hlt => ?_)
  · obtain ⟨p, hc⟩ : ∃ p, s.pays[i]? = some p := ⟨s.pays[i], by simp [hlt]⟩
    have hpo := ok4 p (List.mem_of_getElem? hc)
    have hl32 := hpo.2.2.2.2
    have ht : p.lock.take 32 = p.lock := List.take_of_length_le (by omega)
    have hcb := payv_get hc
    have w2 : IntKind.i64.wrap ((i : Int) + 1) = ((i + 1 : Nat) : Int) := wrap_i64 (by omega) (by omega)
    have hl4 := hl p.id
    have hl5 := hl p.fr
    have hl6 := hl p.am
    have hl7 := hl p.af
    simp [hcb, payF, hl32, ht, wrap_u64n]
    refine call0 (RUint_ok (headB s ++ pB (s.pays.take i)) (u64n p.id) (u64n_lt _) (by simp; omega)) (by simp [I, Bs, Ag, List.take_of_length_le]) ?_
    rintro y H' ⟨rfl, rfl⟩
    refine ⟨.inr ⟨rfl, by simp [RO, bsv, cb]⟩, le_ok rfl, ?_⟩
    simp [R, RO, wrap_u64n, uB_eq]
    refine call0 (RUint_ok (headB s ++ pB (s.pays.take i) ++ uB p.id) (u64n p.fr) (u64n_lt _) (by simp; omega)) (by simp [I, Bs, Ag, List.take_of_length_le]) ?_
    rintro y H' ⟨rfl, rfl⟩
    refine ⟨.inr ⟨rfl, by simp [RO, bsv, cb]⟩, le_ok rfl, ?_⟩
    simp [R, RO, wrap_u64n, uB_eq]
    refine call0 (RUint_ok (headB s ++ pB (s.pays.take i) ++ uB p.id ++ uB p.fr) (u64n p.am) (u64n_lt _) (by simp; omega)) (by simp [I, Bs, Ag, List.take_of_length_le]) ?_
    rintro y H' ⟨rfl, rfl⟩
    refine ⟨.inr ⟨rfl, by simp [RO, bsv, cb]⟩, le_ok rfl, ?_⟩
    simp [R, RO, wrap_u64n, uB_eq]
    refine call0 (RUint_ok (headB s ++ pB (s.pays.take i) ++ uB p.id ++ uB p.fr ++ uB p.am) (u64n p.af) (u64n_lt _) (by simp; omega)) (by simp [I, Bs, Ag, List.take_of_length_le]) ?_
    rintro y H' ⟨rfl, rfl⟩
    refine ⟨.inr ⟨rfl, by simp [RO, bsv, cb]⟩, le_ok rfl, ?_⟩
    simp [R, RO, wrap_u64n, uB_eq]
    simp [hl32, ht]
    refine call0 (RHash_ok (headB s ++ pB (s.pays.take i) ++ uB p.id ++ uB p.fr ++ uB p.am ++ uB p.af) p.lock (by simp; omega) hl32) (by simp [I, Bs, Ag, ht, List.take_of_length_le]) ?_
    rintro y H' ⟨rfl, rfl⟩
    refine ⟨.inr ⟨rfl, by simp [RO, bsv, cb]⟩, le_ok rfl, ?_⟩
    simp [w2, R, RO, -Int.natCast_add]
    have hsn : pB (s.pays.take (i + 1)) = pB (s.pays.take i) ++ (uB p.id ++ (uB p.fr ++ (uB p.am ++ (uB p.af ++ p.lock)))) := by rw [take_s hc, pB_snoc]; simp [payB, usB_cons, usB_nil]
    exact round (i + 1) [0, 530] (by omega) (by omega) (by simp [hsn, R]) (by simp [hsn, RO]) (by simp) (by simp) (by simp)
  have hil : i = s.pays.length := by omega
  subst hil
  rw [List.take_length] at lpi ⊢
  simp [wrap_u64n]
  have hl8 := hl (s.holds.length : Int)
  refine call0 (RUint_ok (headB s ++ pB s.pays) (u64n (s.holds.length : Int)) (u64n_lt _) (by simp; omega)) (by simp [I, Bs, Ag, List.take_of_length_le]) ?_
  rintro y H' ⟨rfl, rfl⟩
  refine ⟨.inr ⟨rfl, by simp [RO, bsv, cb]⟩, le_ok rfl, ?_⟩
  simp [R, RO, wrap_u64n, uB_eq]
  have hmid : headB s ++ (pB s.pays ++ uB (s.holds.length : Int)) = midB s := by simp [midB, usB_cons, usB_nil]
  simp [hmid]
  refine eloop (α := Nat) (fun i => i ≤ s.holds.length) (fun i => s.holds.length - i)
    (fun i => [.any, Ptr 0, .any, R 1 (midB s ++ hB (s.holds.take i)), .any, .any, I .i64 i, .any, .any, .any, .any, .any, .any, .any, .any, .any, .any, .any, .any, .any, .any, .any, .any, .any, .any, .any, .any, .any, .any, .any, .any, .any, .any, .any, .any, .any, .any, .any, .any, .any, .any, .any, .any, .any, .any, .any, .any, .any, .any, .any, .any, .any, .any, .any, .any, .any, .any, .any, .any, .any, .any, .any, .any, .any, .any, .any, .any, .any, .any, .any, .any, .any, .any, .any, .any, .any, .any, .any, .any, .any, .any, .any, .any, .any, .any, .any, .any, .any, .any, .any, .any, .any, .any, .any, .any, .any, .any, .any, .any, .any, .any, .any, .any, .any, .any, .any, .any, .any, .any, .any]) (fun i => [some (.box 26 (staC s)), some (RO (midB s ++ hB (s.holds.take i)))]) 0 [0, 162]
    (Nat.zero_le _) (by simp [Ptr, I, R, hB, ← hmid]) (by simp [RO, hB, staC, ← hmid]) (by simp) (by simp) (by simp) ?_
  intro i hi
  have lki := lk i
  simp [Ptr, I, staC, R, RO]
  refine alt (fun hlt => ?_) (fun hlt => ?_)
  · obtain ⟨p, hc⟩ : ∃ p, s.holds[i]? = some p := ⟨s.holds[i], by simp [hlt]⟩
    have hk := m3 p (List.mem_of_getElem? hc)
    have hcb := holv_get hc
    have w2 : IntKind.i64.wrap ((i : Int) + 1) = ((i + 1 : Nat) : Int) := wrap_i64 (by omega) (by omega)
    have hl4 := hl p.id
    have hl5 := hl p.am
    have hl6 := hl (p.keys.length : Int)
    simp [hcb, holF, wrap_u64n]
    refine call0 (RUint_ok (midB s ++ hB (s.holds.take i)) (u64n p.id) (u64n_lt _) (by simp; omega)) (by simp [I, Bs, Ag, List.take_of_length_le]) ?_
    rintro y H' ⟨rfl, rfl⟩
    refine ⟨.inr ⟨rfl, by simp [RO, bsv, cb]⟩, le_ok rfl, ?_⟩
    simp [R, RO, wrap_u64n, uB_eq]
    refine call0 (RUint_ok (midB s ++ hB (s.holds.take i) ++ uB p.id) (u64n p.am) (u64n_lt _) (by simp; omega)) (by simp [I, Bs, Ag, List.take_of_length_le]) ?_
    rintro y H' ⟨rfl, rfl⟩
    refine ⟨.inr ⟨rfl, by simp [RO, bsv, cb]⟩, le_ok rfl, ?_⟩
    simp [R, RO, wrap_u64n, uB_eq]
    refine call0 (RUint_ok (midB s ++ hB (s.holds.take i) ++ uB p.id ++ uB p.am) (u64n (p.keys.length : Int)) (u64n_lt _) (by simp; omega)) (by simp [I, Bs, Ag, List.take_of_length_le]) ?_
    rintro y H' ⟨rfl, rfl⟩
    refine ⟨.inr ⟨rfl, by simp [RO, bsv, cb]⟩, le_ok rfl, ?_⟩
    simp [R, RO, wrap_u64n, uB_eq]
    refine eloop (α := Nat) (fun j => j ≤ p.keys.length) (fun j => p.keys.length - j)
      (fun j => [.any, Ptr 0, .any, R 2 (midB s ++ hB (s.holds.take i) ++ uB p.id ++ uB p.am ++ uB (p.keys.length : Int) ++ usB (p.keys.take j)), .any, .any, I .i64 i, Ptr 1, I .i64 j, .any, .any, .any, .any, .any, .any, .any, .any, .any, .any, .any, .any, .any, .any, .any, .any, .any, .any, .any, .any, .any, .any, .any, .any, .any, .any, .any, .any, .any, .any, .any, .any, .any, .any, .any, .any, .any, .any, .any, .any, .any, .any, .any, .any, .any, .any, .any, .any, .any, .any, .any, .any, .any, .any, .any, .any, .any, .any, .any, .any, .any, .any, .any, .any, .any, .any, .any, .any, .any, .any, .any, .any, .any, .any, .any, .any, .any, .any, .any, .any, .any, .any, .any, .any, .any, .any, .any, .any, .any, .any, .any, .any, .any, .any, .any, .any, .any, .any, .any, .any, .any])
      (fun j => [some (.box 26 (staC s)), some (.box 75 (holC p)), some (RO (midB s ++ hB (s.holds.take i) ++ uB p.id ++ uB p.am ++ uB (p.keys.length : Int) ++ usB (p.keys.take j)))]) 0 [0, 162, 402]
      (Nat.zero_le _) (by simp [Ptr, I, R, usB]) (by simp [RO, usB, staC, holC]) (by simp) (by simp) (by simp) ?_
    intro j hj
    have lkj := usB_len (p.keys.take j)
    have lkk : (p.keys.take j).length = j := by simp; omega
    simp [Ptr, I, staC, holC, R, RO]
    refine alt (fun hlt2 => ?_) (fun hlt2 => ?_)
    · obtain ⟨k, hc2⟩ : ∃ k, p.keys[j]? = some k := ⟨p.keys[j], by simp [hlt2]⟩
      have hcb2 := intv_get hc2
      have w3 : IntKind.i64.wrap ((j : Int) + 1) = ((j + 1 : Nat) : Int) := wrap_i64 (by omega) (by omega)
      have hts : p.keys.take (j + 1) = p.keys.take j ++ [k] := by rw [List.take_add_one, hc2]; rfl
      simp [hcb2, wrap_u64n]
      refine call0 (RUint_ok (midB s ++ hB (s.holds.take i) ++ uB p.id ++ uB p.am ++ uB (p.keys.length : Int) ++ usB (p.keys.take j)) (u64n k) (u64n_lt _) (by simp; omega)) (by simp [I, Bs, Ag, List.take_of_length_le]) ?_
      rintro y H' ⟨rfl, rfl⟩
      refine ⟨.inr ⟨rfl, by simp [RO, bsv, cb]⟩, le_ok rfl, ?_⟩
      simp [R, RO, wrap_u64n, uB_eq, w3, -Int.natCast_add]
      exact round (j + 1) [0, 1, 195] (by omega) (by omega) (by simp [hts, usB_snoc, R]) (by simp [hts, usB_snoc, RO]) (by simp) (by simp) (by simp)
    have hjl : j = p.keys.length := by omega
    subst hjl
    rw [List.take_length] at lkj ⊢
    have hsn : hB (s.holds.take (i + 1)) = hB (s.holds.take i) ++ (uB p.id ++ (uB p.am ++ (uB (p.keys.length : Int) ++ usB p.keys))) := by rw [take_s hc, hB_snoc]; simp [holB, usB_cons, usB_nil]
    simp [w2, -Int.natCast_add]
    exact round (i + 1) [0, 2] (by omega) (by omega) (by simp [hsn, R]) (by simp [hsn, RO]) (by simp) (by simp) (by simp)
  have hil : i = s.holds.length := by omega
  subst hil
  rw [List.take_length] at lki ⊢
  simp
  refine finW _ (weak_frz (o := 1) (ty := 5) (es := 1) (xs := bsv (midB s ++ hB s.holds)) rfl) ?_
  exact fin [] (by decide) rfl rfl rfl ⟨rfl, by simp [Bs, encS_eq, List.take_of_length_le]⟩

end Go.Proofs.YtpilpjameifcfaaGreatDoor
