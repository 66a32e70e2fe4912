import Derived.Test.YtbbcofojjgofmaaEnc3
namespace Go.Proofs.Ytbbcofojjgofmaa
open Go Go.EW
set_option linter.unusedSimpArgs false
set_option linter.unusedVariables false
/- Lines keep the order of what is laid. -/
abbrev Ls (a b : List UInt8) : Bool := Op.bytesLess a b
theorem Ls_cons (a b : UInt8) (x y : List UInt8) : Ls (a :: x) (b :: y) = (decide (a < b) || (a == b && Ls x y)) := rfl
theorem Ls_irr : ∀ a, Ls a a = false
  | [] => rfl
  | a :: x => by rw [Ls_cons, Ls_irr x]; simp
theorem Ls_tri : ∀ a b, Ls a b = false → a ≠ b → Ls b a = true
  | [], [], _, h => absurd rfl h
  | [], _ :: _, h, _ => by simp [Ls, Op.bytesLess] at h
  | _ :: _, [], _, _ => rfl
  | a :: x, b :: y, h, hn => by
    rw [Ls_cons] at h ⊢
    simp only [Bool.or_eq_false_iff, decide_eq_false_iff_not, Bool.and_eq_false_imp, beq_iff_eq] at h
    by_cases he : a = b
    · subst he
      have := Ls_tri x y (h.2 rfl) (fun e => hn (by rw [e]))
      simp [this]
    · have : b < a := by
        have h1 := h.1
        rw [UInt8.lt_iff_toNat_lt] at h1 ⊢
        have : a.toNat ≠ b.toNat := fun e => he (UInt8.toNat_inj.1 e)
        omega
      simp [this]
theorem Ls_asy : ∀ a b, Ls a b = true → Ls b a = false ∧ a ≠ b
  | [], [], h => by simp [Ls, Op.bytesLess] at h
  | [], _ :: _, _ => ⟨rfl, by simp⟩
  | _ :: _, [], h => by simp [Ls, Op.bytesLess] at h
  | a :: x, b :: y, h => by
    rw [Ls_cons] at h ⊢
    simp only [Bool.or_eq_true, decide_eq_true_eq, Bool.and_eq_true, beq_iff_eq] at h
    rcases h with h | ⟨rfl, h⟩
    · rw [UInt8.lt_iff_toNat_lt] at h
      refine ⟨?_, fun e => ?_⟩
      · simp only [Bool.or_eq_false_iff, decide_eq_false_iff_not, Bool.and_eq_false_imp, beq_iff_eq]
        refine ⟨by rw [UInt8.lt_iff_toNat_lt]; omega, ?_⟩
        rintro rfl; omega
      · injection e with e _; subst e; omega
    · obtain ⟨h1, h2⟩ := Ls_asy x y h
      refine ⟨by simp [h1], fun e => h2 (by injection e)⟩
/-- Whatever comes behind them, the one comes first. -/
def Sep (a b : List UInt8) : Prop := ∀ u v, Ls (a ++ u) (b ++ v) = true
theorem sep_lt {a b : UInt8} (h : a.toNat < b.toNat) (x y : List UInt8) : Sep (a :: x) (b :: y) := by
  intro u v
  rw [List.cons_append, List.cons_append, Ls_cons]
  have : a < b := UInt8.lt_iff_toNat_lt.2 h
  simp [this]
theorem sep_cons {x y : List UInt8} (a : UInt8) (h : Sep x y) : Sep (a :: x) (a :: y) := by
  intro u v
  rw [List.cons_append, List.cons_append, Ls_cons, h u v]
  simp
theorem sep_len : ∀ {a b : List UInt8}, a.length = b.length → Ls a b = true → Sep a b
  | [], [], _, h => by simp [Ls, Op.bytesLess] at h
  | [], _ :: _, h, _ => by simp at h
  | _ :: _, [], h, _ => by simp at h
  | a :: x, b :: y, hl, h => by
    rw [Ls_cons] at h
    simp only [Bool.or_eq_true, decide_eq_true_eq, Bool.and_eq_true, beq_iff_eq] at h
    rcases h with h | ⟨rfl, h⟩
    · exact sep_lt (UInt8.lt_iff_toNat_lt.1 h) x y
    · exact sep_cons a (sep_len (by simpa using hl) h)
theorem sep_app {a b : List UInt8} (h : Sep a b) (u v : List UInt8) : Sep (a ++ u) (b ++ v) := by
  intro p q
  rw [List.append_assoc, List.append_assoc]
  exact h _ _
theorem sep_pre {a b : List UInt8} (c : List UInt8) (h : Sep a b) : Sep (c ++ a) (c ++ b) := by
  induction c with
  | nil => exact h
  | cons x r ih => exact sep_cons x ih
theorem be_lt : ∀ (r n m : Nat), n % 256 ^ r < m % 256 ^ r → Ls (be r n) (be r m) = true
  | 0, n, m, h => by simp [Nat.mod_one] at h
  | r + 1, n, m, h => by
    have hp := Nat.pow_pos (n := r) (show 0 < 256 by omega)
    have e : ∀ x, x % 256 ^ (r + 1) = x % 256 ^ r + 256 ^ r * (x / 256 ^ r % 256) := fun x => by rw [Nat.pow_succ, Nat.mod_mul]
    rw [e, e] at h
    simp only [be]
    rw [Ls_cons]
    have q1 := Nat.mod_lt n hp
    have q2 := Nat.mod_lt m hp
    rcases Nat.lt_trichotomy (n / 256 ^ r % 256) (m / 256 ^ r % 256) with hq | hq | hq
    · have : b8 (n / 256 ^ r) < b8 (m / 256 ^ r) := by rw [UInt8.lt_iff_toNat_lt, b8_nat, b8_nat]; exact hq
      simp [this]
    · have he : b8 (n / 256 ^ r) = b8 (m / 256 ^ r) := by apply UInt8.toNat_inj.1; rw [b8_nat, b8_nat]; exact hq
      rw [hq] at h
      have := be_lt r n m (by omega)
      simp [he, this]
    · have h3 : 256 ^ r * (m / 256 ^ r % 256 + 1) ≤ 256 ^ r * (n / 256 ^ r % 256) := Nat.mul_le_mul_left _ hq
      rw [Nat.mul_add, Nat.mul_one] at h3
      omega
theorem nb_mono {n m : Nat} (h : n ≤ m) : nb n ≤ nb m := by
  rcases Nat.eq_zero_or_pos n with rfl | hn
  · rw [nb_zero]; omega
  have h1 := nb_le hn
  have h2 := nb_lt m
  apply Classical.byContradiction
  intro h3
  have h4 := Nat.pow_le_pow_right (show 0 < 256 by omega) (show nb m ≤ nb n - 1 by omega)
  omega
theorem dg_lt {n m : Nat} (h : n < m) (he : nb n = nb m) : Ls (dg n) (dg m) = true := by
  unfold dg
  rw [he]
  have h1 := nb_lt m
  exact be_lt _ _ _ (by rw [Nat.mod_eq_of_lt h1, Nat.mod_eq_of_lt (by omega)]; exact h)
theorem uint_sep {n m : Nat} (h : n < m) (hm : m < 18446744073709551616) : Sep (uintB n) (uintB m) := by
  have h8 := nb_8 hm
  have h1 := nb_mono (Nat.le_of_lt h)
  unfold uintB
  by_cases he : nb n = nb m
  · rw [he]
    exact sep_cons _ (sep_len (by rw [dg_len, dg_len, he]) (dg_lt h he))
  · exact sep_lt (by rw [b8_nat, b8_nat]; omega) _ _
theorem xor255 (c : UInt8) : (c ^^^ 255).toNat = 255 - c.toNat := by
  have h : ∀ c : _root_.Fin 256, ((UInt8.ofNat c.val) ^^^ 255).toNat = 255 - (UInt8.ofNat c.val).toNat := by decide +kernel
  have := h ⟨c.toNat, c.toNat_lt⟩
  simpa using this
theorem neg_lt : ∀ {a b : List UInt8}, a.length = b.length → Ls a b = true → Ls (b.map (· ^^^ 255)) (a.map (· ^^^ 255)) = true
  | [], [], _, h => by simp [Ls, Op.bytesLess] at h
  | [], _ :: _, h, _ => by simp at h
  | _ :: _, [], h, _ => by simp at h
  | a :: x, b :: y, hl, h => by
    rw [Ls_cons] at h
    simp only [Bool.or_eq_true, decide_eq_true_eq, Bool.and_eq_true, beq_iff_eq] at h
    rw [List.map_cons, List.map_cons, Ls_cons]
    rcases h with h | ⟨rfl, h⟩
    · have h2 : b ^^^ 255 < a ^^^ 255 := by
        rw [UInt8.lt_iff_toNat_lt] at h ⊢
        rw [xor255, xor255]
        have := a.toNat_lt; have := b.toNat_lt
        omega
      simp [h2]
    · have := neg_lt (by simpa using hl) h
      simp [this]
theorem int_sep {n m : Int} (h : n < m) (h0 : -9223372036854775808 ≤ n) (h1 : m ≤ 9223372036854775807) : Sep (intB n) (intB m) := by
  unfold intB
  by_cases hn : n < 0
  · rw [if_pos hn]
    have k1 := nb_8 (n := (-n - 1).toNat) (by omega)
    by_cases hm : m < 0
    · rw [if_pos hm]
      have k2 := nb_mono (n := (-m - 1).toNat) (m := (-n - 1).toNat) (by omega)
      by_cases he : nb (-m - 1).toNat = nb (-n - 1).toNat
      · rw [he]
        exact sep_cons _ (sep_len (by rw [List.length_map, List.length_map, dg_len, dg_len, he]) (neg_lt (by rw [dg_len, dg_len, he]) (dg_lt (by omega) he)))
      · exact sep_lt (by rw [b8_nat, b8_nat]; omega) _ _
    · rw [if_neg hm]
      have k2 := nb_8 (n := m.toNat) (by omega)
      exact sep_lt (by rw [b8_nat, b8_nat]; omega) _ _
  · rw [if_neg hn, if_neg (show ¬ m < 0 by omega)]
    have k1 := nb_8 (n := m.toNat) (by omega)
    have k2 := nb_mono (n := n.toNat) (m := m.toNat) (by omega)
    by_cases he : nb n.toNat = nb m.toNat
    · rw [he]
      exact sep_cons _ (sep_len (by rw [dg_len, dg_len, he]) (dg_lt (by omega) he))
    · exact sep_lt (by rw [b8_nat, b8_nat]; omega) _ _
theorem byt_sep : ∀ {a b : List UInt8}, Ls a b = true → Sep (bytesB a) (bytesB b)
  | [], [], h => by simp [Ls, Op.bytesLess] at h
  | _ :: _, [], h => by simp [Ls, Op.bytesLess] at h
  | [], c :: s, _ => by
    have e0 : bytesB [] = [0, 0] := rfl
    rw [e0]
    by_cases hc : c = 0
    · subst hc
      have e : bytesB (0 :: s) = 0 :: 255 :: bytesB s := by simp [bytesB, stuffB]
      rw [e]
      exact sep_cons _ (sep_lt (by decide) _ _)
    · have e : bytesB (c :: s) = c :: bytesB s := by simp [bytesB, stuffB, hc]
      rw [e]
      refine sep_lt ?_ _ _
      have : c.toNat ≠ 0 := fun h => hc (UInt8.toNat_inj.1 (by simpa using h))
      show 0 < c.toNat
      omega
  | c :: s, d :: t, h => by
    rw [Ls_cons] at h
    simp only [Bool.or_eq_true, decide_eq_true_eq, Bool.and_eq_true, beq_iff_eq] at h
    have e0 : ∀ s, bytesB (0 :: s) = 0 :: 255 :: bytesB s := fun s => by simp [bytesB, stuffB]
    have e1 : ∀ (c : UInt8) s, c ≠ 0 → bytesB (c :: s) = c :: bytesB s := fun c s hc => by simp [bytesB, stuffB, hc]
    rcases h with h | ⟨rfl, h⟩
    · rw [UInt8.lt_iff_toNat_lt] at h
      have hd : d ≠ 0 := by rintro rfl; simp at h
      rw [e1 d t hd]
      by_cases hc : c = 0
      · subst hc; rw [e0]; exact sep_lt h _ _
      · rw [e1 c s hc]; exact sep_lt h _ _
    · have ih := byt_sep h
      by_cases hc : c = 0
      · subst hc; rw [e0, e0]; exact sep_cons _ (sep_cons _ ih)
      · rw [e1 c s hc, e1 c t hc]; exact sep_cons _ ih
/-- -1, 0, 1: which of two comes first. -/
def ordI (less same : Bool) : Int := if same then 0 else if less then -1 else 1
/-- How two lines stand to each other: alike, or apart for good. -/
def Ordd (o : Int) (a b : List UInt8) : Prop := (o = 0 ∧ a = b) ∨ (o = -1 ∧ Sep a b) ∨ (o = 1 ∧ Sep b a)
theorem ordd_end {o : Int} {a b : List UInt8} (h : Ordd o a b) : ordI (Ls a b) (decide (a = b)) = o := by
  rcases h with ⟨rfl, rfl⟩ | ⟨rfl, h⟩ | ⟨rfl, h⟩
  · simp [ordI]
  · have h1 := h [] []
    rw [List.append_nil, List.append_nil] at h1
    have h2 := (Ls_asy _ _ h1).2
    simp [ordI, h1, h2]
  · have h1 := h [] []
    rw [List.append_nil, List.append_nil] at h1
    have h2 := Ls_asy _ _ h1
    simp [ordI, h2.1, Ne.symm h2.2]
theorem ordd_app {o : Int} {a b : List UInt8} (h : Ordd o a b) (ho : o ≠ 0) (u v : List UInt8) : Ordd o (a ++ u) (b ++ v) := by
  rcases h with ⟨h, _⟩ | ⟨h, hs⟩ | ⟨h, hs⟩
  · exact absurd h ho
  · exact .inr (.inl ⟨h, sep_app hs _ _⟩)
  · exact .inr (.inr ⟨h, sep_app hs _ _⟩)
theorem ordd_pre {o : Int} {a b : List UInt8} (c : List UInt8) (h : Ordd o a b) : Ordd o (c ++ a) (c ++ b) := by
  rcases h with ⟨h, rfl⟩ | ⟨h, hs⟩ | ⟨h, hs⟩
  · exact .inl ⟨h, rfl⟩
  · exact .inr (.inl ⟨h, sep_pre c hs⟩)
  · exact .inr (.inr ⟨h, sep_pre c hs⟩)
theorem ordd_uint {n m : Nat} (hn : n < 18446744073709551616) (hm : m < 18446744073709551616) : Ordd (ordI (decide (n < m)) (decide (n = m))) (uintB n) (uintB m) := by
  rcases Nat.lt_trichotomy n m with h | h | h
  · exact .inr (.inl ⟨by simp [ordI, h, Nat.ne_of_lt h], uint_sep h hm⟩)
  · subst h; exact .inl ⟨by simp [ordI], rfl⟩
  · exact .inr (.inr ⟨by simp [ordI, Nat.ne_of_gt h, Nat.not_lt.2 (Nat.le_of_lt h)], uint_sep h hn⟩)
theorem ordd_int {n m : Int} (hn : -9223372036854775808 ≤ n ∧ n ≤ 9223372036854775807) (hm : -9223372036854775808 ≤ m ∧ m ≤ 9223372036854775807) : Ordd (ordI (decide (n < m)) (decide (n = m))) (intB n) (intB m) := by
  rcases Int.lt_trichotomy n m with h | h | h
  · exact .inr (.inl ⟨by simp [ordI, h, Int.ne_of_lt h], int_sep h hn.1 hm.2⟩)
  · subst h; exact .inl ⟨by simp [ordI], rfl⟩
  · exact .inr (.inr ⟨by simp [ordI, Int.ne_of_gt h, Int.not_lt.2 (Int.le_of_lt h)], int_sep h hm.1 hn.2⟩)
theorem ordd_bytes (a b : List UInt8) : Ordd (ordI (Ls a b) (decide (a = b))) (bytesB a) (bytesB b) := by
  by_cases he : a = b
  · subst he; exact .inl ⟨by simp [ordI], rfl⟩
  · cases h : Ls a b
    · exact .inr (.inr ⟨by simp [ordI, he], byt_sep (Ls_tri _ _ h he)⟩)
    · exact .inr (.inl ⟨by simp [ordI, he], byt_sep h⟩)
theorem ordd_hash {a b : List UInt8} (hl : a.length = b.length) : Ordd (ordI (Ls a b) (decide (a = b))) a b := by
  by_cases he : a = b
  · subst he; exact .inl ⟨by simp [ordI], rfl⟩
  · cases h : Ls a b
    · exact .inr (.inr ⟨by simp [ordI, he], sep_len hl.symm (Ls_tri _ _ h he)⟩)
    · exact .inr (.inl ⟨by simp [ordI, he], sep_len hl h⟩)

end Go.Proofs.Ytbbcofojjgofmaa
