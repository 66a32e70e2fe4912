import Derived.Test.YtejjhgdnmknejaaState4
namespace Go.Proofs.Ytejjhgdnmknejaa
open Go Go.EW
set_option linter.unusedSimpArgs false
set_option linter.unusedVariables false

/- A state's copy: its payments, or its holds, as rows of one's own. -/
set_option maxHeartbeats 2000000 in
theorem nextP_ok (s : Sta) (hs : s.ok) (hmn : mayS s = true ∧ s.num ≠ 1099511627776) : ECalls Try.prog 20 [SV s] [] fun y H' => H' = [some (.row 63 36 (payv s.pays))] ∧ y = .tup [.agg [.fz (.lit (.int .i64 (s.num + 1))), .fz (.lit (.int .i64 s.h0)), .fz (.lit (.int .i64 s.h1)), .row 0 s.pays.length, .fz (.sl 3 (holv s.holds))], .c (.fz (.lit (errV 0)))] := by
  obtain ⟨ok1, ok2, ok3, ok4, ok5, ok6, ok7⟩ := id hs
  obtain ⟨hm, hn⟩ := hmn
  refine ecalls k_next ?_
  simp [c_next, SV, staC]
  refine call0 (Smay_ok s hs) (by simp [SV, staC]) ?_
  rintro y H' ⟨rfl, rfl⟩
  rw [hm]
  obtain ⟨hr, hp, hh, htot⟩ := mayS_t hm
  have w1 : IntKind.i64.wrap (s.num + 1) = s.num + 1 := wrap_i64 (by omega) (by omega)
  simp [EV.lit, hn, w1]
  refine call0 (cloneP_ok s.pays ok6) (by simp [PL]) ?_
  rintro y H' ⟨rfl, rfl⟩
  refine ⟨.inl (by simp), le_ok rfl, ?_⟩
  simp
  refine call0 (cloneH_ok s.holds ok7) (by simp [HL]) ?_
  rintro y H' ⟨rfl, rfl⟩
  refine ⟨.inl (by simp), le_ok rfl, ?_⟩
  simp
  refine eloop (α := Nat) (fun i => i ≤ s.holds.length) (fun i => s.holds.length - i)
    (fun i => [.any, Ptr 0, Ptr 1, .any, .any, .any, .any, .any, .any, .any, .any, .any, .any, .any, .any, .any, .any, .any, .any, .any, .any, .any, .any, .any, .any, .any, .any, .any, .any, I .i64 s.holds.length, I .i64 i, .any, .any, .any, .any, .any, .any, .any, .any, .any, .any, .any, .any, .any, .any, .any, .any]) (fun i => [some (.box 37 [.fz (.lit (.int .i64 (s.num + 1))), .fz (.lit (.int .i64 s.h0)), .fz (.lit (.int .i64 s.h1)), .row 2 s.pays.length, .row 3 s.holds.length]), some (.box 37 [.fz (.lit (.int .i64 0)), .fz (.lit (.int .i64 0)), .fz (.lit (.int .i64 0)), .fz (.lit (.slice none 0 0)), .fz (.lit (.slice none 0 0))]), some (.row 63 36 (payv s.pays)), some (.row 57 3 (holv s.holds))]) 0 [0, 16, 288, 336]
    (Nat.zero_le _) (by simp [Ptr, I]) (by simp [List.take_of_length_le]) (by simp) (by simp) (by simp) ?_
  intro i hi
  simp [Ptr, I]
  refine alt (fun hlt => ?_) (fun hlt => ?_)
  · obtain ⟨p, hc⟩ : ∃ p, s.holds[i]? = some p := ⟨s.holds[i], by simp [hlt]⟩
    have hpo := ok5 p (List.mem_of_getElem? hc)
    have hcb := holv_get hc
    have w2 : IntKind.i64.wrap ((i : Int) + 1) = ((i + 1 : Nat) : Int) := wrap_i64 (by omega) (by omega)
    have hset := hol_set hc
    have hge : (holv s.holds)[i]'(by simp [hlt]) = holF p := by
      have h := hcb
      rw [List.getElem?_eq_getElem (by simp [hlt])] at h
      exact Option.some.inj h
    simp [hge, holF, hlt]
    refine call0 (cloneI_ok p.keys hpo.2.2.2) (by simp [IL]) ?_
    rintro y H' ⟨rfl, rfl⟩
    refine ⟨.inl (by simp), le_ok rfl, ?_⟩
    have hset' : (holv s.holds).set i [.lit (.int .i64 p.id), .lit (.int .i64 p.am), .sl 1 (intv p.keys)] = holv s.holds := hset
    simp [hge, holF, hlt, w2, -Int.natCast_add]
    exact round (i + 1) [0, 1, 2, 3] (by omega) (by omega) (by simp) (by simp [hset', List.take_of_length_le]) (by simp) (by simp) (by simp)
  · have hil : i = s.holds.length := by omega
    subst hil
    simp [-errV_0]
    refine finW _ (weak_frz (o := 3) (ty := 57) (es := 3) (xs := holv s.holds) rfl) ?_
    exact fin [2] (by decide) rfl rfl rfl ⟨rfl, by simp [List.take_of_length_le, errV, -errV_0]⟩

set_option maxHeartbeats 2000000 in
theorem nextH_ok (s : Sta) (hs : s.ok) (hmn : mayS s = true ∧ s.num ≠ 1099511627776) : ECalls Try.prog 20 [SV s] [] fun y H' => H' = [some (.row 57 3 (holv s.holds))] ∧ y = .tup [.agg [.fz (.lit (.int .i64 (s.num + 1))), .fz (.lit (.int .i64 s.h0)), .fz (.lit (.int .i64 s.h1)), .fz (.sl 36 (payv s.pays)), .row 0 s.holds.length], .c (.fz (.lit (errV 0)))] := by
  obtain ⟨ok1, ok2, ok3, ok4, ok5, ok6, ok7⟩ := id hs
  obtain ⟨hm, hn⟩ := hmn
  refine ecalls k_next ?_
  simp [c_next, SV, staC]
  refine call0 (Smay_ok s hs) (by simp [SV, staC]) ?_
  rintro y H' ⟨rfl, rfl⟩
  rw [hm]
  obtain ⟨hr, hp, hh, htot⟩ := mayS_t hm
  have w1 : IntKind.i64.wrap (s.num + 1) = s.num + 1 := wrap_i64 (by omega) (by omega)
  simp [EV.lit, hn, w1]
  refine call0 (cloneP_ok s.pays ok6) (by simp [PL]) ?_
  rintro y H' ⟨rfl, rfl⟩
  refine ⟨.inl (by simp), le_ok rfl, ?_⟩
  simp
  refine call0 (cloneH_ok s.holds ok7) (by simp [HL]) ?_
  rintro y H' ⟨rfl, rfl⟩
  refine ⟨.inl (by simp), le_ok rfl, ?_⟩
  simp
  refine loopW _ (weak_frz (o := 288) (ty := 63) (es := 36) (xs := payv s.pays) rfl) ?_
  refine eloop (α := Nat) (fun i => i ≤ s.holds.length) (fun i => s.holds.length - i)
    (fun i => [.any, Ptr 0, Ptr 1, .any, .any, .any, .any, .any, .any, .any, .any, .any, .any, .any, .any, .any, .any, .any, .any, .any, .any, .any, .any, .any, .any, .any, .any, .any, .any, I .i64 s.holds.length, I .i64 i, .any, .any, .any, .any, .any, .any, .any, .any, .any, .any, .any, .any, .any, .any, .any, .any]) (fun i => [some (.box 37 [.fz (.lit (.int .i64 (s.num + 1))), .fz (.lit (.int .i64 s.h0)), .fz (.lit (.int .i64 s.h1)), .fz (.sl 36 (payv s.pays)), .row 2 s.holds.length]), some (.box 37 [.fz (.lit (.int .i64 0)), .fz (.lit (.int .i64 0)), .fz (.lit (.int .i64 0)), .fz (.lit (.slice none 0 0)), .fz (.lit (.slice none 0 0))]), some (.row 57 3 (holv s.holds))]) 0 [0, 16, 336]
    (Nat.zero_le _) (by simp [Ptr, I]) (by simp [List.take_of_length_le]) (by simp) (by simp) (by simp) ?_
  intro i hi
  simp [Ptr, I]
  refine alt (fun hlt => ?_) (fun hlt => ?_)
  · obtain ⟨p, hc⟩ : ∃ p, s.holds[i]? = some p := ⟨s.holds[i], by simp [hlt]⟩
    have hpo := ok5 p (List.mem_of_getElem? hc)
    have hcb := holv_get hc
    have w2 : IntKind.i64.wrap ((i : Int) + 1) = ((i + 1 : Nat) : Int) := wrap_i64 (by omega) (by omega)
    have hset := hol_set hc
    have hge : (holv s.holds)[i]'(by simp [hlt]) = holF p := by
      have h := hcb
      rw [List.getElem?_eq_getElem (by simp [hlt])] at h
      exact Option.some.inj h
    simp [hge, holF, hlt]
    refine call0 (cloneI_ok p.keys hpo.2.2.2) (by simp [IL]) ?_
    rintro y H' ⟨rfl, rfl⟩
    refine ⟨.inl (by simp), le_ok rfl, ?_⟩
    have hset' : (holv s.holds).set i [.lit (.int .i64 p.id), .lit (.int .i64 p.am), .sl 1 (intv p.keys)] = holv s.holds := hset
    simp [hge, holF, hlt, w2, -Int.natCast_add]
    exact round (i + 1) [0, 1, 2] (by omega) (by omega) (by simp) (by simp [hset', List.take_of_length_le]) (by simp) (by simp) (by simp)
  · have hil : i = s.holds.length := by omega
    subst hil
    simp [-errV_0]
    exact fin [2] (by decide) rfl rfl rfl ⟨rfl, by simp [List.take_of_length_le, errV, -errV_0]⟩

end Go.Proofs.Ytejjhgdnmknejaa
