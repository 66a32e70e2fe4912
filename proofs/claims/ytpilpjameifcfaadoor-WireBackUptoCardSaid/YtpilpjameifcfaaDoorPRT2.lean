import Derived.Test.YtpilpjameifcfaaDoorPRT
namespace Go.Proofs.YtpilpjameifcfaaDoor
open Go Go.EW
set_option linter.unusedSimpArgs false
set_option linter.unusedVariables false
/- What was read was laid: ints, bytes. -/

/-- What was read as an int is the int's bytes. -/
theorem low_inv {r : List UInt8} {many : Nat} {m : UInt8} (h : (lowS r many m).2 = 0) : r = (dg (lowS r many m).1).map (· ^^^ m) ++ r.drop many ∧ nb (lowS r many m).1 = many := by
  have hz : lowS r many m = (valB ((r.take many).map (· ^^^ m)), 0) ∧ many ≤ r.length ∧ (many = 0 ∨ r[0]? ≠ some m) := by
    unfold lowS at h ⊢
    split at h
    · simp at h
    · split at h
      · simp at h
      · rename_i h1 h2
        rw [if_neg h1, if_neg h2]
        refine ⟨rfl, by omega, ?_⟩
        rcases Nat.eq_zero_or_pos many with h | h
        · exact .inl h
        · exact .inr (fun h3 => h2 ⟨h, h3⟩)
  obtain ⟨e1, e2, e3⟩ := hz
  have hl : ((r.take many).map (· ^^^ m)).length = many := by rw [List.length_map, List.length_take]; omega
  have hd := dg_val many ((r.take many).map (· ^^^ m)) hl (by
    rcases e3 with h | h
    · exact .inl h
    · rcases Nat.eq_zero_or_pos many with h1 | h1
      · exact .inl h1
      · right
        rw [List.getElem?_map, List.getElem?_take, if_pos h1]
        intro h2
        cases hr : r[0]? with
        | none => rw [hr] at h2; simp at h2
        | some c =>
          rw [hr] at h2 h
          simp at h2 h
          have h3 := congrArg (· ^^^ m) h2
          simp only [UInt8.xor_assoc, UInt8.xor_self, UInt8.xor_zero, UInt8.zero_xor] at h3
          first | exact h (UInt8.xor_eq_zero_iff.1 h2) | exact h (UInt8.xor_eq_zero_iff.1 h3) | exact h h2)
  rw [e1]
  constructor
  · show r = (dg (valB ((r.take many).map (· ^^^ m)))).map (· ^^^ m) ++ r.drop many
    rw [hd, xor_xor, List.take_append_drop]
  · show nb (valB ((r.take many).map (· ^^^ m))) = many
    rw [← dg_len, hd, hl]
theorem int_inv {b : List UInt8} (h : (intS b).1 = 0) : b = intB (intS b).2.1 ++ b.drop (intS b).2.2 ∧ -9223372036854775808 ≤ (intS b).2.1 ∧ (intS b).2.1 ≤ 9223372036854775807 := by
  rcases b with _ | ⟨c, r⟩
  · simp [intS] at h
  have hcl := c.toNat_lt
  simp at hcl
  simp only [intS] at h ⊢
  by_cases h1 : 128 ≤ c.toNat
  · simp only [if_pos h1] at h ⊢
    obtain ⟨many, hmy⟩ : ∃ many, c.toNat - 128 = many := ⟨_, rfl⟩
    rw [hmy] at h ⊢
    have li := low_inv (r := r) (many := many) (m := 0)
    obtain ⟨w, hw⟩ : ∃ w, lowS r many 0 = w := ⟨_, rfl⟩
    rw [hw] at h li ⊢
    obtain ⟨q, z⟩ := w
    by_cases h8 : 8 < many
    · rw [if_pos h8] at h; simp at h
    rw [if_neg h8] at h ⊢
    simp only at h li ⊢
    by_cases hq : z = 0
    · subst hq
      rw [if_neg (by simp)] at h ⊢
      by_cases hm : 9223372036854775807 < q
      · rw [if_pos hm] at h; simp at h
      rw [if_neg hm]
      obtain ⟨e1, e2⟩ := li rfl
      refine ⟨?_, by show _ ≤ (q : Int); omega, by show (q : Int) ≤ _; omega⟩
      show c :: r = intB (q : Int) ++ (c :: r).drop (1 + many)
      have e3 : (dg q).map (· ^^^ (0 : UInt8)) = dg q := by simp
      rw [e3] at e1
      have e4 : b8 (128 + nb q) = c := by apply UInt8.toNat_inj.1; rw [b8_nat]; omega
      rw [intB, if_neg (by omega), Int.toNat_natCast, e4, Nat.add_comm 1, List.drop_succ_cons, List.cons_append, ← e1]
    · rw [if_pos hq] at h; exact absurd h hq
  · simp only [if_neg h1] at h ⊢
    obtain ⟨many, hmy⟩ : ∃ many, 127 - c.toNat = many := ⟨_, rfl⟩
    rw [hmy] at h ⊢
    have li := low_inv (r := r) (many := many) (m := 255)
    obtain ⟨w, hw⟩ : ∃ w, lowS r many 255 = w := ⟨_, rfl⟩
    rw [hw] at h li ⊢
    obtain ⟨q, z⟩ := w
    by_cases h8 : 8 < many
    · rw [if_pos h8] at h; simp at h
    rw [if_neg h8] at h ⊢
    simp only at h li ⊢
    by_cases hq : z = 0
    · subst hq
      rw [if_neg (by simp)] at h ⊢
      by_cases hm : 9223372036854775807 < q
      · rw [if_pos hm] at h; simp at h
      rw [if_neg hm]
      obtain ⟨e1, e2⟩ := li rfl
      refine ⟨?_, by show _ ≤ -(q : Int) - 1; omega, by show -(q : Int) - 1 ≤ _; omega⟩
      show c :: r = intB (-(q : Int) - 1) ++ (c :: r).drop (1 + many)
      have e3 : (-(-(q : Int) - 1) - 1).toNat = q := by omega
      have e4 : b8 (127 - nb q) = c := by apply UInt8.toNat_inj.1; rw [b8_nat]; omega
      rw [intB, if_pos (by omega), e3, e4, Nat.add_comm 1, List.drop_succ_cons, List.cons_append, ← e1]
    · rw [if_pos hq] at h; exact absurd h hq
theorem byt_inv : ∀ (n : Nat) (b : List UInt8) (m : Nat), b.length ≤ n → (bytS b m).1 = 0 → b = bytesB (bytS b m).2.1 ++ b.drop (bytS b m).2.2
  | n, [], m, _, h => by simp [bytS] at h
  | 0, _ :: _, m, hn, _ => by simp at hn
  | n + 1, c :: r, m, hn, h => by
    rw [List.length_cons] at hn
    by_cases hc : c = 0
    · subst hc
      rcases r with _ | ⟨x, r'⟩
      · rw [bytS.eq_def] at h; simp at h
      by_cases hx : x = 0
      · subst hx
        have e : bytS (0 :: 0 :: r') m = (0, [], 2) := by rw [bytS.eq_def]; simp
        rw [e]
        simp [bytesB, stuffB]
      by_cases h255 : x = 255
      · subst h255
        by_cases hm : m = 0
        · subst hm; rw [bytS.eq_def] at h; simp at h
        rw [bytS_0 hm] at h ⊢
        have hq : (bytS r' (m - 1)).1 = 0 := by
          apply Classical.byContradiction; intro hq; simp [addS, hq] at h
        have ih := byt_inv n r' (m - 1) (by rw [List.length_cons] at hn; omega) hq
        have e : ∀ s, bytesB (0 :: s) = 0 :: 255 :: bytesB s := fun s => by simp [bytesB, stuffB]
        simp only [addS, hq, ne_eq, not_true_eq_false, if_false, List.singleton_append]
        rw [e, show 2 + (bytS r' (m - 1)).2.2 = (bytS r' (m - 1)).2.2 + 1 + 1 by omega, List.drop_succ_cons, List.drop_succ_cons, List.cons_append, List.cons_append, ← ih]
      · rw [bytS.eq_def] at h; simp [hx, h255] at h
    · by_cases hm : m = 0
      · subst hm; rw [bytS.eq_def] at h; simp [hc] at h
      rw [bytS_c hc hm] at h ⊢
      have hq : (bytS r (m - 1)).1 = 0 := by
        apply Classical.byContradiction; intro hq; simp [addS, hq] at h
      have ih := byt_inv n r (m - 1) (by omega) hq
      have e : ∀ s, bytesB (c :: s) = c :: bytesB s := fun s => by simp [bytesB, stuffB, hc]
      simp only [addS, hq, ne_eq, not_true_eq_false, if_false, List.singleton_append]
      rw [e, show 1 + (bytS r (m - 1)).2.2 = (bytS r (m - 1)).2.2 + 1 by omega, List.drop_succ_cons, List.cons_append, ← ih]

end Go.Proofs.YtpilpjameifcfaaDoor
