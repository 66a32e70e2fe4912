import Derived.Test.YtejjhgdnmknejaaState3
namespace Go.Proofs.Ytejjhgdnmknejaa
open Go Go.EW
set_option linter.unusedSimpArgs false
set_option linter.unusedVariables false

@[simp] def l_next_1 (_ : Unit) : List EOp := [⟨0, (some 1), none, (.q (.box 37 (.t 0))), []⟩, ⟨1, (some 2), none, (.q (.alloc 37 [(.int .i64 0), (.int .i64 0), (.int .i64 0), (.slice none 0 0), (.slice none 0 0)])), []⟩, ⟨2, (some 3), none, (.q (.mov (.k .nilIface))), []⟩]
@[simp] def b_next_2 (_ : Unit) : EB := reg0 (hid l_next_1) 3
@[simp] def l_next_4 (_ : Unit) : List EOp := [⟨6, (some 11), (some (8, false)), (.q (.bin .eql (.t 10) (.k (.int .i64 1099511627776)))), []⟩, ⟨7, (some 12), none, (.q (.pick (.t 8) (.k (.bool true)) (.t 11))), []⟩]
@[simp] def l_next_3 (_ : Unit) : List EOp := ⟨0, (some 5), none, (.q (.lda 5 (.t 1))), []⟩ :: ⟨1, (some 6), none, (.call 16 [(.t 5)]), []⟩ :: ⟨2, (some 7), none, (.q (.un .not (.t 6))), []⟩ :: ⟨3, (some 8), none, (.q (.mov (.t 7))), []⟩ :: ⟨4, (some 9), (some (8, false)), (.q (.fad 0 (.t 1))), []⟩ :: ⟨5, (some 10), (some (8, false)), (.q (.ldc (.t 9))), []⟩ :: hid l_next_4
@[simp] def b_next_5 (_ : Unit) : EB := reg0 (hid l_next_3) 8
@[simp] def l_next_6 (_ : Unit) : List EOp := [⟨0, (some 13), none, (.q (.build [(.int .i64 0), (.int .i64 0), (.int .i64 0), (.slice none 0 0), (.slice none 0 0)] [])), []⟩, ⟨1, (some 14), none, (.q (.mki 59 (.k (.int .i64 1)))), []⟩, ⟨2, none, none, (.fz (.sto 5 (.t 2) (.t 13))), []⟩, ⟨3, (some 3), none, (.q (.mov (.t 14))), []⟩]
@[simp] def b_next_7 (_ : Unit) : EB := reg0 (hid l_next_6) 4
@[simp] def b_next_8 (_ : Unit) : EB := .seq (hid b_next_7) .ret
@[simp] def b_next_9 (_ : Unit) : EB := .cond (.t 12) (hid b_next_8) .skip
@[simp] def b_next_10 (_ : Unit) : EB := .seq (hid b_next_5) (hid b_next_9)
@[simp] def l_next_11 (_ : Unit) : List EOp := [⟨0, (some 15), none, (.q (.fad 0 (.t 1))), []⟩, ⟨1, (some 16), none, (.q (.ldc (.t 15))), []⟩, ⟨2, (some 17), none, (.q (.bin .add (.t 16) (.k (.int .i64 1)))), []⟩, ⟨3, (some 18), none, (.q (.fad 0 (.t 1))), []⟩, ⟨4, none, none, (.sto 1 (.t 18) (.t 17)), []⟩]
@[simp] def b_next_12 (_ : Unit) : EB := reg0 (hid l_next_11) 5
@[simp] def l_next_14 (_ : Unit) : List EOp := [⟨5, (some 24), none, (.call 36 [(.t 23)]), [6]⟩, ⟨7, none, none, (.fz (.sto 1 (.t 25) (.t 21))), []⟩, ⟨8, (some 26), none, (.q (.fad 4 (.t 1))), []⟩, ⟨9, none, none, (.fz (.sto 1 (.t 26) (.t 24))), []⟩]
@[simp] def l_next_13 (_ : Unit) : List EOp := ⟨0, (some 19), none, (.q (.fad 3 (.t 1))), []⟩ :: ⟨1, (some 20), none, (.q (.ldc (.t 19))), []⟩ :: ⟨3, (some 22), none, (.q (.fad 4 (.t 1))), []⟩ :: ⟨4, (some 23), none, (.q (.ldc (.t 22))), []⟩ :: ⟨2, (some 21), none, (.call 35 [(.t 20)]), [3, 4]⟩ :: ⟨6, (some 25), none, (.q (.fad 3 (.t 1))), []⟩ :: hid l_next_14
@[simp] def b_next_15 (_ : Unit) : EB := reg1 (hid l_next_13) 10
@[simp] def l_next_16 (_ : Unit) : List EOp := [⟨0, (some 27), none, (.q (.fad 4 (.t 1))), []⟩, ⟨1, (some 28), none, (.q (.ldc (.t 27))), []⟩, ⟨2, (some 29), none, (.q (.len (.t 28))), []⟩, ⟨3, (some 30), none, (.q (.mov (.k (.int .i64 0)))), []⟩]
@[simp] def b_next_17 (_ : Unit) : EB := reg0 (hid l_next_16) 4
@[simp] def l_next_18 (_ : Unit) : List EOp := [⟨0, (some 31), none, (.q (.bin .lss (.t 30) (.t 29))), []⟩]
@[simp] def b_next_19 (_ : Unit) : EB := reg0 (hid l_next_18) 1
@[simp] def b_next_20 (_ : Unit) : EB := .cond (.t 31) .skip (.exit 0)
@[simp] def l_next_21 (_ : Unit) : List EOp := [⟨0, (some 32), none, (.q (.mov (.t 30))), []⟩, ⟨1, (some 4), none, (.q (.mov (.t 32))), []⟩]
@[simp] def b_next_22 (_ : Unit) : EB := reg0 (hid l_next_21) 2
@[simp] def l_next_25 (_ : Unit) : List EOp := [⟨12, none, none, (.fz (.sto 1 (.t 44) (.t 42))), []⟩]
@[simp] def l_next_24 (_ : Unit) : List EOp := ⟨6, (some 39), none, (.q (.isl 3 (.t 37) (.t 38))), []⟩ :: ⟨7, (some 40), none, (.q (.fad 2 (.t 39))), []⟩ :: ⟨8, (some 41), none, (.q (.ldc (.t 40))), []⟩ :: ⟨9, (some 42), none, (.call 26 [(.t 41)]), [0, 1, 2]⟩ :: ⟨10, (some 43), none, (.q (.isl 3 (.t 34) (.t 35))), []⟩ :: ⟨11, (some 44), none, (.q (.fad 2 (.t 43))), []⟩ :: hid l_next_25
@[simp] def l_next_23 (_ : Unit) : List EOp := ⟨0, (some 33), none, (.q (.fad 4 (.t 1))), []⟩ :: ⟨1, (some 34), none, (.q (.ldc (.t 33))), []⟩ :: ⟨2, (some 35), none, (.q (.mov (.t 4))), []⟩ :: ⟨3, (some 36), none, (.q (.fad 4 (.t 1))), []⟩ :: ⟨4, (some 37), none, (.q (.ldc (.t 36))), []⟩ :: ⟨5, (some 38), none, (.q (.mov (.t 4))), []⟩ :: hid l_next_24
@[simp] def b_next_26 (_ : Unit) : EB := reg1 (hid l_next_23) 13
@[simp] def b_next_27 (_ : Unit) : EB := .seq (hid b_next_22) (hid b_next_26)
@[simp] def b_next_28 (_ : Unit) : EB := .block 1 (hid b_next_27)
@[simp] def l_next_29 (_ : Unit) : List EOp := [⟨0, (some 45), none, (.q (.bin .add (.t 30) (.k (.int .i64 1)))), []⟩, ⟨1, (some 30), none, (.q (.mov (.t 45))), []⟩]
@[simp] def b_next_30 (_ : Unit) : EB := reg0 (hid l_next_29) 2
@[simp] def b_next_31 (_ : Unit) : EB := .seq (hid b_next_28) (hid b_next_30)
@[simp] def b_next_32 (_ : Unit) : EB := .seq (hid b_next_20) (hid b_next_31)
@[simp] def b_next_33 (_ : Unit) : EB := .seq (hid b_next_19) (hid b_next_32)
@[simp] def b_next_34 (_ : Unit) : EB := .loop (hid b_next_33)
@[simp] def b_next_35 (_ : Unit) : EB := .block 0 (hid b_next_34)
@[simp] def b_next_36 (_ : Unit) : EB := .seq (hid b_next_17) (hid b_next_35)
@[simp] def l_next_37 (_ : Unit) : List EOp := [⟨0, (some 46), none, (.q (.lda 5 (.t 1))), []⟩, ⟨1, none, none, (.fz (.sto 5 (.t 2) (.t 46))), []⟩, ⟨2, (some 3), none, (.q (.mov (.k .nilIface))), []⟩]
@[simp] def b_next_38 (_ : Unit) : EB := reg0 (hid l_next_37) 3
@[simp] def b_next_39 (_ : Unit) : EB := .seq (hid b_next_38) .ret
@[simp] def b_next_40 (_ : Unit) : EB := .seq (hid b_next_36) (hid b_next_39)
@[simp] def b_next_41 (_ : Unit) : EB := .seq (hid b_next_15) (hid b_next_40)
@[simp] def b_next_42 (_ : Unit) : EB := .seq (hid b_next_12) (hid b_next_41)
@[simp] def b_next_43 (_ : Unit) : EB := .seq (hid b_next_10) (hid b_next_42)
@[simp] def b_next_44 (_ : Unit) : EB := .seq (hid b_next_2) (hid b_next_43)
def c_next : EB × List QOp × Nat := ((hid b_next_44), [(.lda 5 (.t 2)), (.mov (.t 3))], 47)
theorem k_next : cfun Try.prog 20 = some c_next := by kernel_rfl


@[simp] theorem errV_5 : Value.iface 59 (.int .i64 5) = errV 5 := rfl
@[simp] theorem errV_20 : Value.iface 59 (.int .i64 20) = errV 20 := rfl
@[simp] theorem errV_27 : Value.iface 59 (.int .i64 27) = errV 27 := rfl
@[simp] theorem errV_33 : Value.iface 59 (.int .i64 33) = errV 33 := rfl
def zSta : Sta := ⟨0, 0, 0, [], []⟩
/-- A state's copy, with the next number; an error. -/
def nxt (s : Sta) : Sta × Nat := if mayS s = true ∧ s.num ≠ 1099511627776 then (⟨s.num + 1, s.h0, s.h1, s.pays, s.holds⟩, 0) else (zSta, 1)
def SE (q : Sta × Nat) : EV := .tup [.agg (staC q.1), .c (.fz (.lit (errV q.2)))]
theorem nxt_ok {s : Sta} (hs : s.ok) (h : mayS s = true) : (Sta.mk (s.num + 1) s.h0 s.h1 s.pays s.holds).ok := by
  obtain ⟨hr, _⟩ := mayS_t h
  exact ⟨⟨by show _ ≤ s.num + 1; omega, by show s.num + 1 ≤ _; omega⟩, hs.2⟩
theorem hol_set {l : List Hol} {i : Nat} {h : Hol} (hc : l[i]? = some h) : (holv l).set i (holF h) = holv l := by
  apply List.ext_getElem?
  intro j
  rw [List.getElem?_set]
  split
  · rename_i e
    subst e
    split
    · rw [holv_get hc]
    · rename_i hn; exact absurd (by simpa using lt_len hc) hn
  · rfl

set_option maxHeartbeats 2000000 in
theorem next_ok (s : Sta) (hs : s.ok) : ECalls Try.prog 20 [SV s] [] fun y H' => H' = [] ∧ y = SE (nxt s) := by
  obtain ⟨ok1, ok2, ok3, ok4, ok5, ok6, ok7⟩ := id hs
  refine ecalls k_next ?_
  simp [c_next, SV, staC]
  refine call0 (Smay_ok s hs) (by simp [SV, staC]) ?_
  rintro y H' ⟨rfl, rfl⟩
  cases hm : mayS s
  · have ht : nxt s = (zSta, 1) := by simp [nxt, hm]
    rw [ht]
    simp [EV.lit]
    refine finW _ (weak_nlB (o := 16) (k := 3) 36 rfl rfl) (finW _ (weak_nlB (o := 16) (k := 4) 3 rfl rfl) ?_)
    exact fin [] (by decide) rfl rfl rfl ⟨rfl, rfl⟩
  obtain ⟨hr, hp, hh, htot⟩ := mayS_t hm
  by_cases hn : s.num = 1099511627776
  · have ht : nxt s = (zSta, 1) := by simp [nxt, hn]
    rw [ht]
    simp [EV.lit, hn]
    refine finW _ (weak_nlB (o := 16) (k := 3) 36 rfl rfl) (finW _ (weak_nlB (o := 16) (k := 4) 3 rfl rfl) ?_)
    exact fin [] (by decide) rfl rfl rfl ⟨rfl, rfl⟩
  have ht : nxt s = (⟨s.num + 1, s.h0, s.h1, s.pays, s.holds⟩, 0) := by simp [nxt, hm, hn]
  rw [ht]
  have w1 : IntKind.i64.wrap (s.num + 1) = s.num + 1 := wrap_i64 (by omega) (by omega)
  simp [EV.lit, hn, w1]
  refine call0 (cloneP_ok s.pays ok6) (by simp [PL]) ?_
  rintro y H' ⟨rfl, rfl⟩
  refine ⟨.inl (by simp), le_ok rfl, ?_⟩
  simp
  refine call0 (cloneH_ok s.holds ok7) (by simp [HL]) ?_
  rintro y H' ⟨rfl, rfl⟩
  refine ⟨.inl (by simp), le_ok rfl, ?_⟩
  simp
  refine loopW _ (weak_frz (o := 288) (ty := 63) (es := 36) (xs := payv s.pays) rfl) ?_
  refine eloop (α := Nat) (fun i => i ≤ s.holds.length) (fun i => s.holds.length - i)
    (fun i => [.any, Ptr 0, Ptr 1, .any, .any, .any, .any, .any, .any, .any, .any, .any, .any, .any, .any, .any, .any, .any, .any, .any, .any, .any, .any, .any, .any, .any, .any, .any, .any, I .i64 s.holds.length, I .i64 i, .any, .any, .any, .any, .any, .any, .any, .any, .any, .any, .any, .any, .any, .any, .any, .any]) (fun i => [some (.box 37 [.fz (.lit (.int .i64 (s.num + 1))), .fz (.lit (.int .i64 s.h0)), .fz (.lit (.int .i64 s.h1)), .fz (.sl 36 (payv s.pays)), .row 2 s.holds.length]), some (.box 37 [.fz (.lit (.int .i64 0)), .fz (.lit (.int .i64 0)), .fz (.lit (.int .i64 0)), .fz (.lit (.slice none 0 0)), .fz (.lit (.slice none 0 0))]), some (.row 57 3 (holv s.holds))]) 0 [0, 16, 336]
    (Nat.zero_le _) (by simp [Ptr, I]) (by simp [List.take_of_length_le]) (by simp) (by simp) (by simp) ?_
  intro i hi
  simp [Ptr, I]
  refine alt (fun hlt => ?_) (fun hlt => ?_)
  · obtain ⟨p, hc⟩ : ∃ p, s.holds[i]? = some p := ⟨s.holds[i], by simp [hlt]⟩
    have hpo := ok5 p (List.mem_of_getElem? hc)
    have hcb := holv_get hc
    have w2 : IntKind.i64.wrap ((i : Int) + 1) = ((i + 1 : Nat) : Int) := wrap_i64 (by omega) (by omega)
    have hset := hol_set hc
    have hge : (holv s.holds)[i]'(by simp [hlt]) = holF p := by
      have h := hcb
      rw [List.getElem?_eq_getElem (by simp [hlt])] at h
      exact Option.some.inj h
    simp [hge, holF, hlt]
    refine call0 (cloneI_ok p.keys hpo.2.2.2) (by simp [IL]) ?_
    rintro y H' ⟨rfl, rfl⟩
    refine ⟨.inl (by simp), le_ok rfl, ?_⟩
    have hset' : (holv s.holds).set i [.lit (.int .i64 p.id), .lit (.int .i64 p.am), .sl 1 (intv p.keys)] = holv s.holds := hset
    simp [hge, holF, hlt, w2, -Int.natCast_add]
    exact round (i + 1) [0, 1, 2] (by omega) (by omega) (by simp) (by simp [hset', List.take_of_length_le]) (by simp) (by simp) (by simp)
  · have hil : i = s.holds.length := by omega
    subst hil
    simp [-errV_0]
    refine finW _ (weak_frz (o := 2) (ty := 57) (es := 3) (xs := holv s.holds) rfl) ?_
    exact fin [] (by decide) rfl rfl rfl ⟨rfl, by simp [SE, staC, List.take_of_length_le, errV, -errV_0]⟩

/-- An amount moved from a side to the other one; the error. -/
def moveS (s : Sta) (from' n : Int) : Sta × Nat :=
  if (nxt s).2 ≠ 0 then (zSta, (nxt s).2) else if ¬ (from' = 0 ∨ from' = 1) then (zSta, 33) else if n < 1 then (zSta, 27)
  else if (if from' = 0 then s.h0 else s.h1) < n then (zSta, 20)
  else if from' = 0 then (⟨s.num + 1, s.h0 - n, s.h1 + n, s.pays, s.holds⟩, 0) else (⟨s.num + 1, s.h0 + n, s.h1 - n, s.pays, s.holds⟩, 0)

/-- A side given more, or less, from outside; the error. -/
def resS (s : Sta) (who n : Int) : Sta × Nat :=
  if (nxt s).2 ≠ 0 then (zSta, (nxt s).2) else if ¬ (who = 0 ∨ who = 1) then (zSta, 33)
  else if n < -(if who = 0 then s.h0 else s.h1) then (zSta, 20) else if 1125899906842624 - total s < n then (zSta, 5)
  else if who = 0 then (⟨s.num + 1, s.h0 + n, s.h1, s.pays, s.holds⟩, 0) else (⟨s.num + 1, s.h0, s.h1 + n, s.pays, s.holds⟩, 0)
theorem sum_nn : ∀ {l : List Int}, (∀ x ∈ l, 0 ≤ x) → 0 ≤ l.sum
  | [], _ => by simp
  | x :: r, h => by
    have h1 := h x (by simp)
    have h2 := sum_nn (l := r) (fun y hy => h y (by simp [hy]))
    simp; omega
theorem sumP_nn {o : Option Int} {l : List Pay} (h : payL o l = true) : 0 ≤ sumP l := sum_nn fun x hx => by
  obtain ⟨p, hp, rfl⟩ := List.mem_map.1 hx
  have := payL_am h p hp
  omega
theorem sumH_nn {o : Option Int} {l : List Hol} (h : holL o l = true) : 0 ≤ sumH l := sum_nn fun x hx => by
  obtain ⟨p, hp, rfl⟩ := List.mem_map.1 hx
  have := holL_am h p hp
  omega
theorem totS_nx {s : Sta} (h : mayS s = true ∧ s.num ≠ 1099511627776) : totS ⟨s.num + 1, s.h0, s.h1, s.pays, s.holds⟩ = total s := by
  obtain ⟨hr, hp, hh, ht⟩ := mayS_t h.1
  have hm : mayS ⟨s.num + 1, s.h0, s.h1, s.pays, s.holds⟩ = true := by
    simp only [mayS, hp, hh, Bool.and_true, Bool.and_eq_true, decide_eq_true_eq]
    refine ⟨?_, ht⟩
    have := h.2
    omega
  rw [totS, if_pos hm]
  rfl

end Go.Proofs.Ytejjhgdnmknejaa
