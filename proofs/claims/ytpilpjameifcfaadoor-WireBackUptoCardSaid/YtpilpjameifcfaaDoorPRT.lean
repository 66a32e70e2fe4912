import Derived.Test.YtpilpjameifcfaaDoorPEnc9
import Derived.Test.YtpilpjameifcfaaDoorPEnc3
namespace Go.Proofs.YtpilpjameifcfaaDoor
open Go Go.EW
set_option linter.unusedSimpArgs false
set_option linter.unusedVariables false
/- What was laid is read again; what was read was laid. -/
theorem val_dg (n : Nat) : valB (dg n) = n := by
  induction n using Nat.strongRecOn with
  | ind n ih =>
    by_cases h : n = 0
    · subst h; rfl
    · rw [dg_step h, val_snoc, ih (n / 256) (by omega), b8_nat]; omega
theorem dg_head {n : Nat} (h : n ≠ 0) : ∃ c r, dg n = c :: r ∧ c ≠ 0 := by
  obtain ⟨k, hk⟩ : ∃ k, nb n = k + 1 := ⟨nb n - 1, by have := nb_pos (n := n) (by omega); omega⟩
  refine ⟨b8 (n / 256 ^ k), be k n, by rw [dg, hk, be], ?_⟩
  have h1 := nb_lt n
  have h2 := nb_le (n := n) (by omega)
  rw [hk] at h1 h2
  rw [Nat.add_sub_cancel] at h2
  have hp := Nat.pow_pos (n := k) (show 0 < 256 by omega)
  have h3 : 1 ≤ n / 256 ^ k := (Nat.le_div_iff_mul_le hp).2 (by omega)
  have h4 : n / 256 ^ k < 256 := (Nat.div_lt_iff_lt_mul hp).2 (by rw [Nat.pow_succ, Nat.mul_comm] at h1; exact h1)
  intro h5
  have h6 := congrArg UInt8.toNat h5
  rw [b8_nat] at h6
  simp at h6
  omega
theorem xor_xor (m : UInt8) (l : List UInt8) : (l.map (· ^^^ m)).map (· ^^^ m) = l := by
  induction l with
  | nil => rfl
  | cons c r ih => rw [List.map_cons, List.map_cons, ih, UInt8.xor_assoc, UInt8.xor_self, UInt8.xor_zero]
theorem low_dg (n : Nat) (m : UInt8) (r : List UInt8) : lowS ((dg n).map (· ^^^ m) ++ r) (nb n) m = (n, 0) := by
  have hl : ((dg n).map (· ^^^ m)).length = nb n := by rw [List.length_map, dg_len]
  rw [lowS, if_neg (by rw [List.length_append]; omega), if_neg, List.take_left' hl, xor_xor, val_dg]
  rintro ⟨h1, h2⟩
  have hn : n ≠ 0 := by rintro rfl; simp [nb_zero] at h1
  obtain ⟨c, s, hc, hz⟩ := dg_head hn
  rw [hc] at h2
  simp at h2
  have h3 := congrArg (· ^^^ m) h2
  simp only [UInt8.xor_assoc, UInt8.xor_self, UInt8.xor_zero] at h3
  exact hz h3
theorem low_dg0 (n : Nat) (r : List UInt8) : lowS (dg n ++ r) (nb n) 0 = (n, 0) := by
  have h := low_dg n 0 r
  have : (dg n).map (· ^^^ (0 : UInt8)) = dg n := by simp
  rwa [this] at h
theorem num_rt {n most : Nat} (h : n < 18446744073709551616) (hm : n ≤ most) (r : List UInt8) : numS (uintB n ++ r) most = (0, n, (uintB n).length) := by
  have h8 := nb_8 h
  have e : (b8 (nb n)).toNat = nb n := by rw [b8_nat]; omega
  simp only [uintB, List.cons_append, numS, e, low_dg0]
  rw [if_neg (by omega), if_neg (by simp), if_neg (by omega), List.length_cons, dg_len, Nat.add_comm]
theorem int_rt {n : Int} (h0 : -9223372036854775808 ≤ n) (h1 : n ≤ 9223372036854775807) (r : List UInt8) : intS (intB n ++ r) = (0, n, (intB n).length) := by
  unfold intB
  split
  · rename_i hn
    obtain ⟨k, hk⟩ : ∃ k : Nat, (-n - 1).toNat = k := ⟨_, rfl⟩
    have h8 := nb_8 (n := k) (by omega)
    have e : (b8 (127 - nb k)).toNat = 127 - nb k := by rw [b8_nat]; omega
    rw [hk]
    simp only [List.cons_append, intS, e]
    rw [if_neg (show ¬ 128 ≤ 127 - nb k by omega), if_neg (show ¬ 128 ≤ 127 - nb k by omega), show 127 - (127 - nb k) = nb k by omega, low_dg, if_neg (by omega), if_neg (by simp), if_neg (by show ¬ _ < k; omega), if_neg (by omega)]
    simp only [List.length_cons, List.length_map, dg_len, Nat.add_comm, Prod.mk.injEq, and_true, true_and]
    omega
  · rename_i hn
    obtain ⟨k, hk⟩ : ∃ k : Nat, n.toNat = k := ⟨_, rfl⟩
    have h8 := nb_8 (n := k) (by omega)
    have e : (b8 (128 + nb k)).toNat = 128 + nb k := by rw [b8_nat]; omega
    rw [hk]
    simp only [List.cons_append, intS, e]
    rw [if_pos (show 128 ≤ 128 + nb k by omega), if_pos (show 128 ≤ 128 + nb k by omega), show 128 + nb k - 128 = nb k by omega, low_dg0, if_neg (by omega), if_neg (by simp), if_neg (by show ¬ _ < k; omega), if_pos (by omega)]
    simp only [List.length_cons, dg_len, Nat.add_comm, Prod.mk.injEq, and_true, true_and]
    omega
theorem byt_rt (b : List UInt8) : ∀ (m : Nat) (r : List UInt8), b.length ≤ m → bytS (bytesB b ++ r) m = (0, b, (bytesB b).length) := by
  induction b with
  | nil =>
    intro m r _
    show bytS (0 :: 0 :: r) m = _
    rw [bytS.eq_def]
    simp [bytesB, stuffB]
  | cons c s ih =>
    intro m r hm
    rw [List.length_cons] at hm
    have h := ih (m - 1) r (by omega)
    by_cases hc : c = 0
    · subst hc
      have e : bytesB (0 :: s) = 0 :: 255 :: bytesB s := by simp [bytesB, stuffB]
      rw [e, List.cons_append, List.cons_append, bytS_0 (by omega), h]
      simp [addS]; omega
    · have e : bytesB (c :: s) = c :: bytesB s := by simp [bytesB, stuffB, hc]
      rw [e, List.cons_append, bytS_c hc (by omega), h]
      simp [addS]; omega
theorem dg_val : ∀ (k : Nat) (l : List UInt8), l.length = k → (k = 0 ∨ l[0]? ≠ some 0) → dg (valB l) = l := by
  intro k
  induction k with
  | zero => intro l h _; rw [List.length_eq_zero_iff.1 h]; rfl
  | succ k ih =>
    intro l h h0
    have hl : l ≠ [] := by rintro rfl; simp at h
    obtain ⟨s, c, rfl⟩ : ∃ s c, l = s ++ [c] := ⟨l.dropLast, l.getLast hl, (List.dropLast_concat_getLast hl).symm⟩
    simp at h
    have hc := c.toNat_lt
    simp at hc
    have hs : k = 0 ∨ s[0]? ≠ some 0 := by
      rcases s with _ | ⟨x, s⟩
      · left; simpa using h.symm
      · right; simpa using h0
    have hd := ih s h hs
    have hnz : 256 * valB s + c.toNat ≠ 0 := by
      intro hz
      rcases Nat.eq_zero_or_pos k with rfl | hk
      · rw [List.length_eq_zero_iff.1 h] at h0
        have : c = 0 := by apply UInt8.toNat_inj.1; simp; omega
        subst this
        simp at h0
      · have : valB s = 0 := by omega
        rw [this] at hd
        rw [← hd] at h
        simp [dg_zero] at h
        omega
    rw [val_snoc, dg_step hnz, show (256 * valB s + c.toNat) / 256 = valB s by omega, hd]
    congr 2
    apply UInt8.toNat_inj.1
    rw [b8_nat]
    omega
/-- What was read as a number is the number's bytes. -/
theorem num_inv {b : List UInt8} {most : Nat} (h : (numS b most).1 = 0) : b = uintB (numS b most).2.1 ++ b.drop (numS b most).2.2 ∧ (numS b most).2.2 = (uintB (numS b most).2.1).length := by
  rcases b with _ | ⟨c, r⟩
  · simp [numS] at h
  simp only [numS] at h ⊢
  by_cases h8 : 8 < c.toNat
  · rw [if_pos h8] at h; simp at h
  rw [if_neg h8] at h ⊢
  by_cases hq : (lowS r c.toNat 0).2 ≠ 0
  · rw [if_pos hq] at h; exact absurd h hq
  rw [if_neg hq] at h ⊢
  by_cases hm : most < (lowS r c.toNat 0).1
  · rw [if_pos hm] at h; simp at h
  rw [if_neg hm]
  have hz : lowS r c.toNat 0 = (valB (r.take c.toNat), 0) ∧ c.toNat ≤ r.length ∧ (c.toNat = 0 ∨ r[0]? ≠ some 0) := by
    unfold lowS at hq ⊢
    split at hq
    · simp at hq
    · split at hq
      · simp at hq
      · rename_i h1 h2
        rw [if_neg h1, if_neg h2]
        refine ⟨?_, by omega, ?_⟩
        · have : (r.take c.toNat).map (· ^^^ (0 : UInt8)) = r.take c.toNat := by simp
          rw [this]
        · rcases Nat.eq_zero_or_pos c.toNat with h | h
          · exact .inl h
          · exact .inr (fun h3 => h2 ⟨h, h3⟩)
  obtain ⟨e1, e2, e3⟩ := hz
  have hd := dg_val c.toNat (r.take c.toNat) (by rw [List.length_take]; omega) (by
    rcases e3 with h | h
    · exact .inl h
    · rcases Nat.eq_zero_or_pos c.toNat with h1 | h1
      · exact .inl h1
      · right; rw [List.getElem?_take, if_pos h1]; exact h)
  have hn : nb (valB (r.take c.toNat)) = c.toNat := by rw [← dg_len, hd, List.length_take]; omega
  rw [e1]
  constructor
  · show c :: r = uintB (valB (r.take c.toNat)) ++ (c :: r).drop (1 + c.toNat)
    rw [uintB, hd, hn, Nat.add_comm 1, List.drop_succ_cons, List.cons_append, List.take_append_drop]
    congr 1
    apply UInt8.toNat_inj.1
    rw [b8_nat]; omega
  · show 1 + c.toNat = (uintB (valB (r.take c.toNat))).length
    rw [uintB, List.length_cons, hd, List.length_take]; omega

end Go.Proofs.YtpilpjameifcfaaDoor
