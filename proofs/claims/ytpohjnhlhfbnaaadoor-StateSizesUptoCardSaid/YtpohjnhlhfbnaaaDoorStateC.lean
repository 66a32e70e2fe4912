import Derived.Test.YtpohjnhlhfbnaaaDoorStateB
namespace Go.Proofs.YtpohjnhlhfbnaaaDoor
open Go Go.EW
set_option linter.unusedSimpArgs false
set_option linter.unusedVariables false

theorem resS_ok {s : Sta} {a n : Int} (hs : s.ok) (hm : s.small) : (resS s a n).1.ok ∧ (resS s a n).1.small ∧ ((resS s a n).2 = 0 → totS (resS s a n).1 = totS s + n ∧ 0 ≤ totS s ∧ totS s ≤ 1125899906842624) := by
  have hz := zSta_ok
  obtain ⟨ok1, ok2, ok3, ok4, ok5, ok6, ok7⟩ := id hs
  unfold resS
  split
  · rename_i h; exact ⟨hz.1, hz.2, fun h' => absurd h' h⟩
  rename_i h1
  have h0 : mayS s = true ∧ s.num ≠ 1099511627776 := by
    unfold nxt at h1
    split at h1
    · rename_i h; exact h
    · simp at h1
  have hb := mayS_b h0.1
  obtain ⟨hr, hp, hh, htot⟩ := mayS_t h0.1
  have n1 := sumP_nn hp
  have n2 := sumH_nn hh
  have hts : totS s = total s := by rw [totS, if_pos h0.1]
  split
  · exact ⟨hz.1, hz.2, fun h' => absurd h' (by simp)⟩
  rename_i h2
  have key : ∀ x y : Int, 0 ≤ x → 0 ≤ y → x + y = s.h0 + s.h1 + n → n ≤ 1125899906842624 - total s → (Sta.mk (s.num + 1) x y s.pays s.holds).ok ∧ (Sta.mk (s.num + 1) x y s.pays s.holds).small ∧ ((0 : Nat) = 0 → totS (Sta.mk (s.num + 1) x y s.pays s.holds) = totS s + n ∧ 0 ≤ totS s ∧ totS s ≤ 1125899906842624) := by
    intro x y hx hy hxy hn
    have ht2 : total (Sta.mk (s.num + 1) x y s.pays s.holds) = total s + n := by simp [total]; omega
    have hle : x ≤ 1125899906842624 ∧ y ≤ 1125899906842624 := by simp [total] at hn; omega
    have hm2 : mayS ⟨s.num + 1, x, y, s.pays, s.holds⟩ = true := by
      simp only [mayS, hp, hh, Bool.and_true, Bool.and_eq_true, decide_eq_true_eq, ht2]
      have := h0.2
      refine ⟨?_, by omega⟩
      omega
    refine ⟨⟨by unfold i64; simp; omega, by unfold i64; simp; omega, by unfold i64; simp; omega, ok4, ok5, ok6, ok7⟩, hm, fun _ => ?_⟩
    rw [totS, if_pos hm2, hts, ht2]
    refine ⟨rfl, ?_, htot⟩
    simp [total]; omega
  by_cases h5 : a = 0
  · simp only [h5, if_true]
    split
    · exact ⟨hz.1, hz.2, fun h' => absurd h' (by simp)⟩
    split
    · exact ⟨hz.1, hz.2, fun h' => absurd h' (by simp)⟩
    exact key _ _ (by omega) (by omega) (by omega) (by omega)
  · simp only [h5, if_false]
    split
    · exact ⟨hz.1, hz.2, fun h' => absurd h' (by simp)⟩
    split
    · exact ⟨hz.1, hz.2, fun h' => absurd h' (by simp)⟩
    exact key _ _ (by omega) (by omega) (by omega) (by omega)

set_option maxHeartbeats 2000000 in
theorem StateSizes_ok (s : Sta) (a b : Int) (hs : s.ok) (ha : i64 a) (hb : i64 b) : ECalls Tryd.prog 4 [SV s, I .i64 a, I .i64 b] [] fun y H' => H' = [] ∧ y = .lit (.bool true) := by
  refine ecalls k_StateSizes ?_
  simp [c_StateSizes, SV, staC, I]
  refine call0 (longState_ok s hs) (by simp [Ptr, I, EV.lit, Bs, SV, staC, SE, RE]) ?_
  rintro y H' ⟨rfl, rfl⟩
  refine ⟨.inl (by simp [Ptr, I, EV.lit, Bs, SV, staC, SE, RE]), le_ok rfl, ?_⟩
  simp
  refine alt (fun hl => ?_) (fun hl => ?_)
  · simp
    refine call0 (sure_ok) (by simp [Ptr, I, EV.lit, Bs, SV, staC, SE, RE]) ?_
    rintro y H' ⟨rfl, rfl⟩
    refine ⟨.inl (by simp [Ptr, I, EV.lit, Bs, SV, staC, SE, RE]), le_ok rfl, ?_⟩
    simp [Ptr, I, EV.lit, Bs, SV, staC, SE, RE]
    exact fin [] (by decide) rfl rfl rfl ⟨rfl, rfl⟩
  have hsm := (longS_small (by simpa using hl)).1
  obtain ⟨q1, q2, q3⟩ := resS_ok (a := a) (n := b) hs hsm
  simp
  refine call0 (giveState_ok s hs hsm) (by simp [Ptr, I, EV.lit, Bs, SV, staC, SE, RE]) ?_
  rintro y H' ⟨rfl, rfl⟩
  refine ⟨.inl (by simp [Ptr, I, EV.lit, Bs, SV, staC, SE, RE]), le_ok rfl, ?_⟩
  simp [Ptr, I, EV.lit, Bs, SV, staC, SE, RE]
  refine call0 (Resize_ok s a b hs ha hb) (by simp [Ptr, I, EV.lit, Bs, SV, staC, SE, RE]) ?_
  rintro y H' ⟨rfl, rfl⟩
  refine ⟨.inl (by simp [Ptr, I, EV.lit, Bs, SV, staC, SE, RE]), le_ok rfl, ?_⟩
  simp [Ptr, I, EV.lit, Bs, SV, staC, SE, RE]
  refine call0 (RResize_ok s a b hs ha hb) (by simp [Ptr, I, EV.lit, Bs, SV, staC, SE, RE]) ?_
  rintro y H' ⟨rfl, rfl⟩
  refine ⟨.inl (by simp [Ptr, I, EV.lit, Bs, SV, staC, SE, RE]), le_ok rfl, ?_⟩
  simp [Ptr, I, EV.lit, Bs, SV, staC, SE, RE]
  refine call0 (same_ok (resS s a b).1 (resS s a b).2 q1 q2) (by simp [Ptr, I, EV.lit, Bs, SV, staC, SE, RE]) ?_
  rintro y H' ⟨rfl, rfl⟩
  refine ⟨.inl (by simp [Ptr, I, EV.lit, Bs, SV, staC, SE, RE]), le_ok rfl, ?_⟩
  rcases Nat.eq_zero_or_pos (resS s a b).2 with he | he
  · obtain ⟨t1, t2, t3⟩ := q3 he
    have w1 : IntKind.i64.wrap (totS (resS s a b).1 - b) = totS s := by rw [wrap_i64 (by omega) (by omega)]; omega
    simp [he]
    refine call0 (Total_ok (resS s a b).1 q1) (by simp [Ptr, I, EV.lit, Bs, SV, staC, SE, RE]) ?_
    rintro y H' ⟨rfl, rfl⟩
    refine ⟨.inl (by simp [Ptr, I, EV.lit, Bs, SV, staC, SE, RE]), le_ok rfl, ?_⟩
    simp [Ptr, I, EV.lit, Bs, SV, staC, SE, RE]
    simp [w1]
    refine call0 (RTotal_ok s hs) (by simp [Ptr, I, EV.lit, Bs, SV, staC, SE, RE]) ?_
    rintro y H' ⟨rfl, rfl⟩
    refine ⟨.inl (by simp [Ptr, I, EV.lit, Bs, SV, staC, SE, RE]), le_ok rfl, ?_⟩
    simp [Ptr, I, EV.lit, Bs, SV, staC, SE, RE]
    refine call0 (sure_ok) (by simp [Ptr, I, EV.lit, Bs, SV, staC, SE, RE]) ?_
    rintro y H' ⟨rfl, rfl⟩
    refine ⟨.inl (by simp [Ptr, I, EV.lit, Bs, SV, staC, SE, RE]), le_ok rfl, ?_⟩
    simp [Ptr, I, EV.lit, Bs, SV, staC, SE, RE]
    exact fin [] (by decide) rfl rfl rfl ⟨rfl, rfl⟩
  · have he' : (resS s a b).2 ≠ 0 := by omega
    simp [he']
    refine call0 (sure_ok) (by simp [Ptr, I, EV.lit, Bs, SV, staC, SE, RE]) ?_
    rintro y H' ⟨rfl, rfl⟩
    refine ⟨.inl (by simp [Ptr, I, EV.lit, Bs, SV, staC, SE, RE]), le_ok rfl, ?_⟩
    simp [Ptr, I, EV.lit, Bs, SV, staC, SE, RE]
    exact fin [] (by decide) rfl rfl rfl ⟨rfl, rfl⟩

end Go.Proofs.YtpohjnhlhfbnaaaDoor
