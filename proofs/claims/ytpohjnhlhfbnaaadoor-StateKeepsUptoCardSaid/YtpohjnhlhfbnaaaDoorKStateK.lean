import Derived.Test.YtpohjnhlhfbnaaaDoorKStateJ
namespace Go.Proofs.YtpohjnhlhfbnaaaDoor
open Go Go.EW
set_option linter.unusedSimpArgs false
set_option linter.unusedVariables false

def zPay : Pay := ⟨0, 0, 0, 0, hz⟩
def delP (l : List Pay) (x : Int) : List Pay := l.take (posI (l.map (·.id)) x) ++ l.drop (posI (l.map (·.id)) x + 1)
/-- A payment taken out; the error. -/
def takS (s : Sta) (x : Int) : Sta × Pay × Nat :=
  if (nxt s).2 ≠ 0 then (zSta, zPay, 1) else if fndI (s.pays.map (·.id)) x = false then (zSta, zPay, 8)
  else (⟨s.num + 1, s.h0, s.h1, delP s.pays x, s.holds⟩, (s.pays[posI (s.pays.map (·.id)) x]?).getD zPay, 0)
def SP (q : Sta × Pay × Nat) : EV := .tup [.agg (staC q.1), .agg (payC q.2.1), .c (.fz (.lit (errV q.2.2)))]
theorem fzE_payC (o es : Nat) (xs : List (List FV)) (p : Pay) : (payC p).map (fzE o es xs) = payC p := by simp [payC, hc]
theorem payv_del (l : List Pay) (x : Int) : payv (delP l x) = (payv l).take (posI (l.map (·.id)) x) ++ (payv l).drop (posI (l.map (·.id)) x + 1) := by simp [payv, delP]

set_option maxHeartbeats 4000000 in
theorem Stake_ok (s : Sta) (x : Int) (hs : s.ok) (hx64 : i64 x) : ECalls Tryd.prog 65 [SV s, I .i64 x] [] fun y H' => H' = [] ∧ y = SP (takS s x) := by
  obtain ⟨ok1, ok2, ok3, ok4, ok5, ok6, ok7⟩ := id hs
  refine ecalls k_Stake ?_
  simp [c_Stake, SV, staC, I, -errV_0]
  by_cases h0 : mayS s = true ∧ s.num ≠ 1099511627776
  rotate_left
  · have hx : nxt s = (zSta, 1) := by simp only [nxt, if_neg h0]
    have ha : takS s x = (zSta, zPay, 1) := by simp [takS, hx]
    rw [ha]
    refine call0 (next_ok s hs) (by simp [SV, staC]) ?_
    rintro y H' ⟨rfl, rfl⟩
    refine ⟨.inl (by simp), le_ok rfl, ?_⟩
    rw [hx]
    simp [SE, SP, staC, zSta, -errV_0]
    refine finW _ (weak_nlB (o := 16) (k := 3) 36 rfl rfl) (finW _ (weak_nlB (o := 16) (k := 4) 3 rfl rfl) ?_)
    exact fin [] (by decide) rfl rfl rfl ⟨rfl, rfl⟩
  have hx : nxt s = (⟨s.num + 1, s.h0, s.h1, s.pays, s.holds⟩, 0) := by simp only [nxt, if_pos h0]
  obtain ⟨hr, hpl', hh, htot⟩ := mayS_t h0.1
  have hpw := payL_pw hpl'
  have tpv : List.take s.pays.length (payv s.pays) = payv s.pays := List.take_of_length_le (by simp)
  have hadd : takS s x = if fndI (s.pays.map (·.id)) x = false then (zSta, zPay, 8)
      else (⟨s.num + 1, s.h0, s.h1, delP s.pays x, s.holds⟩, (s.pays[posI (s.pays.map (·.id)) x]?).getD zPay, 0) := by
    simp only [takS, hx]
    rw [if_neg (by simp)]
  refine call0 (nextP_ok s hs h0) (by simp [SV, staC]) ?_
  rintro y H' ⟨rfl, rfl⟩
  refine ⟨.inl (by simp), le_ok rfl, ?_⟩
  simp [-errV_0]
  refine call0 (BinP_ok s.pays x ok4 ok6 hpw) (by simp [PL, I, tpv]) ?_
  rintro y H' ⟨rfl, rfl⟩
  refine ⟨.inr ⟨rfl, by simp⟩, le_ok rfl, ?_⟩
  obtain ⟨pos, hpos⟩ : ∃ pos, posI (s.pays.map (·.id)) x = pos := ⟨_, rfl⟩
  obtain ⟨fnd, hfnd⟩ : ∃ fnd, fndI (s.pays.map (·.id)) x = fnd := ⟨_, rfl⟩
  rw [hpos, hfnd] at hadd ⊢
  rw [hadd]
  simp [-errV_0]
  cases fnd
  · simp [SP, staC, zSta, -errV_0]
    refine finW _ (weak_nlB (o := 16) (k := 3) 36 rfl rfl) (finW _ (weak_nlB (o := 16) (k := 4) 3 rfl rfl) ?_)
    exact fin [] (by decide) rfl rfl rfl ⟨rfl, rfl⟩
  have hf2 : (s.pays.map (·.id))[pos]? = some x := by
    have := hfnd
    unfold fndI at this
    rw [hpos] at this
    exact of_decide_eq_true this
  have hlt : pos < s.pays.length := by have := lt_len hf2; simpa using this
  obtain ⟨p, hc⟩ : ∃ p, s.pays[pos]? = some p := ⟨s.pays[pos], by simp [hlt]⟩
  have hpo := ok4 p (List.mem_of_getElem? hc)
  have hge : (payv s.pays)[pos]'(by simp [hlt]) = payF p := by
    have e := payv_get hc
    rw [List.getElem?_eq_getElem (by simp [hlt])] at e
    exact Option.some.inj e
  have hpt := payC_take hpo.2.2.2.2
  have hpl := payC_len hpo.2.2.2.2
  have hfl := payF_len hpo.2.2.2.2
  have w1 : IntKind.i64.wrap ((pos : Int) + 1) = (pos : Int) + 1 := wrap_i64 (by omega) (by omega)
  have hpv : payv (delP s.pays x) = (payv s.pays).take pos ++ (payv s.pays).drop (pos + 1) := by rw [payv_del, hpos]
  have hpl1 : (delP s.pays x).length = s.pays.length - 1 := by simp [delP, hpos]; omega
  have hpt2 : List.take (s.pays.length - 1) (payv (delP s.pays x)) = payv (delP s.pays x) := List.take_of_length_le (by simp [hpl1])
  have hdel := InsP.del_ok (payv s.pays) pos (by simpa using hlt)
  simp at hdel
  rw [hc]
  have hcn : Go.EW.hc [] = [] := rfl
  simp [hlt, hge, payF_fz, hpt, hpl, hfl, w1, hcn, -errV_0]
  refine callH [80] hdel (by simp) (by simp) (by simp) (by simp) (by simp) ?_
  rintro y H' ⟨rfl, rfl⟩
  refine ⟨.inl (by simp), by simp, ?_⟩
  simp [hpt, hpl, hcn, -errV_0]
  refine finW _ (weak_frz (o := 592) (ty := 61) (es := 36) (xs := payv (delP s.pays x)) (by rw [hpv]; rfl)) ?_
  have hfz := fzE_payC 592 36 (payv (delP s.pays x)) p
  exact fin (v := SP (⟨s.num + 1, s.h0, s.h1, delP s.pays x, s.holds⟩, p, 0)) (y := SP (⟨s.num + 1, s.h0, s.h1, delP s.pays x, s.holds⟩, p, 0)) [] (by decide) (by simp [resV, resT, evT, asT, SP, staC, hpt, hpl, hpl1, hpt2, hcn, hfz]) (by simp [conR, conT, conTs, SP, staC]) rfl ⟨rfl, rfl⟩

/-- A payment given back; the error. -/
def falS (s : Sta) (x : Int) : Sta × Nat :=
  if (takS s x).2.2 ≠ 0 then (zSta, (takS s x).2.2) else (⟨(takS s x).1.num, if (takS s x).2.1.fr = 0 then s.h0 + (takS s x).2.1.am else s.h0, if (takS s x).2.1.fr = 0 then s.h1 else s.h1 + (takS s x).2.1.am, (takS s x).1.pays, s.holds⟩, 0)
theorem payL_sum : ∀ {o : Option Int} {l : List Pay}, payL o l = true → ∀ p ∈ l, p.am ≤ sumP l
  | o, [], _, p, hp => by simp at hp
  | o, a :: r, h, p, hp => by
    simp only [payL, Bool.and_eq_true] at h
    have h1 := mayP_am h.1.1
    have h2 := sumP_nn h.2
    have e : sumP (a :: r) = a.am + sumP r := by simp [sumP]
    rcases List.mem_cons.1 hp with rfl | hp
    · omega
    · have := payL_sum h.2 p hp
      omega
theorem payL_mem : ∀ {o : Option Int} {l : List Pay}, payL o l = true → ∀ p ∈ l, mayP p = true
  | o, [], _, p, hp => by simp at hp
  | o, q :: r, h, p, hp => by
    simp only [payL, Bool.and_eq_true] at h
    rcases List.mem_cons.1 hp with rfl | hp
    · exact h.1.1
    · exact payL_mem h.2 p hp

set_option maxHeartbeats 4000000 in
theorem SFail_ok (s : Sta) (x : Int) (hs : s.ok) (hx64 : i64 x) : ECalls Tryd.prog 25 [SV s, I .i64 x] [] fun y H' => H' = [] ∧ y = SE (falS s x) := by
  obtain ⟨ok1, ok2, ok3, ok4, ok5, ok6, ok7⟩ := id hs
  refine ecalls k_SFail ?_
  simp [c_SFail, SV, staC, I, -errV_0]
  refine call0 (Stake_ok s x hs hx64) (by simp [SV, staC, I]) ?_
  rintro y H' ⟨rfl, rfl⟩
  refine ⟨.inl (by simp), le_ok rfl, ?_⟩
  by_cases h0 : mayS s = true ∧ s.num ≠ 1099511627776
  rotate_left
  · have hx : nxt s = (zSta, 1) := by simp only [nxt, if_neg h0]
    have ha : takS s x = (zSta, zPay, 1) := by simp [takS, hx]
    have hb : falS s x = (zSta, 1) := by simp [falS, ha]
    rw [ha, hb]
    simp [SE, SP, staC, zSta, zPay, payC, -errV_0]
    refine finW _ (weak_nlB (o := 16) (k := 3) 36 rfl rfl) (finW _ (weak_nlB (o := 16) (k := 4) 3 rfl rfl) ?_)
    exact fin [] (by decide) rfl rfl rfl ⟨rfl, rfl⟩
  have hx : nxt s = (⟨s.num + 1, s.h0, s.h1, s.pays, s.holds⟩, 0) := by simp only [nxt, if_pos h0]
  obtain ⟨hr, hpl', hh, htot⟩ := mayS_t h0.1
  cases hf : fndI (s.pays.map (·.id)) x
  · have ha : takS s x = (zSta, zPay, 8) := by simp [takS, hx, hf]
    have hb : falS s x = (zSta, 8) := by simp [falS, ha]
    rw [ha, hb]
    simp [SE, SP, staC, zSta, zPay, payC, -errV_0]
    refine finW _ (weak_nlB (o := 16) (k := 3) 36 rfl rfl) (finW _ (weak_nlB (o := 16) (k := 4) 3 rfl rfl) ?_)
    exact fin [] (by decide) rfl rfl rfl ⟨rfl, rfl⟩
  have hf2 : (s.pays.map (·.id))[posI (s.pays.map (·.id)) x]? = some x := of_decide_eq_true hf
  have hlt : posI (s.pays.map (·.id)) x < s.pays.length := by have := lt_len hf2; simpa using this
  obtain ⟨p, hc⟩ : ∃ p, s.pays[posI (s.pays.map (·.id)) x]? = some p := ⟨s.pays[posI (s.pays.map (·.id)) x], by simp [hlt]⟩
  have hpm := List.mem_of_getElem? hc
  have hpo := ok4 p hpm
  have hma := of_decide_eq_true (payL_mem hpl' p hpm)
  obtain ⟨m1, m2, m3, m4, m5, m6, m7, m8⟩ := hma
  have hle := payL_sum hpl' p hpm
  have hnn := sumH_nn hh
  have hto : total s = s.h0 + s.h1 + sumP s.pays + sumH s.holds := rfl
  have ha : takS s x = (⟨s.num + 1, s.h0, s.h1, delP s.pays x, s.holds⟩, p, 0) := by simp [takS, hx, hf, hc]
  have hb : falS s x = (⟨s.num + 1, if p.fr = 0 then s.h0 + p.am else s.h0, if p.fr = 0 then s.h1 else s.h1 + p.am, delP s.pays x, s.holds⟩, 0) := by simp [falS, ha]
  rw [ha, hb]
  have hpt := payC_take hpo.2.2.2.2
  have hpl := payC_len hpo.2.2.2.2
  simp [SP, staC, hpl, hpt, pc0, pc1, pc2, pd1, pd2, pe0, pe1, pe2, -errV_0]
  rcases m3 with hfr | hfr
  · have w1 : IntKind.i64.wrap (s.h0 + p.am) = s.h0 + p.am := wrap_i64 (by omega) (by omega)
    simp [hfr, pc0, pc1, pc2, pd1, pd2, pe0, pe1, pe2, hpl, w1, -errV_0]
    exact fin [] (by decide) rfl rfl rfl ⟨rfl, by simp [SE, staC, hfr, errV, -errV_0]⟩
  · have w1 : IntKind.i64.wrap (s.h1 + p.am) = s.h1 + p.am := wrap_i64 (by omega) (by omega)
    simp [hfr, pc0, pc1, pc2, pd1, pd2, pe0, pe1, pe2, hpl, w1, -errV_0]
    exact fin [] (by decide) rfl rfl rfl ⟨rfl, by simp [SE, staC, hfr, errV, -errV_0]⟩

end Go.Proofs.YtpohjnhlhfbnaaaDoor
