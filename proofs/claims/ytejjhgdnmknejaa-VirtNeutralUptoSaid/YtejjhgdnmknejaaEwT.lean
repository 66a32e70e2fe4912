/- Numbers as bytes: plain. -/
namespace Go.EW

/-- A number's lowest byte. -/
def b8 (n : Nat) : UInt8 := UInt8.ofNat n
theorem b8_nat (n : Nat) : (b8 n).toNat = n % 256 := by simp [b8]
/-- The lowest r bytes of a number, the highest first. -/
def be : Nat → Nat → List UInt8
  | 0, _ => []
  | r + 1, n => b8 (n / 256 ^ r) :: be r n
theorem be_len (r n : Nat) : (be r n).length = r := by induction r <;> simp [be, *]

/-- How many bytes a number has. -/
def nb (n : Nat) : Nat := if n = 0 then 0 else n.log2 / 8 + 1
def dg (n : Nat) : List UInt8 := be (nb n) n
theorem dg_len (n : Nat) : (dg n).length = nb n := be_len _ _

def IsLen (n r : Nat) : Prop := n < 2 ^ r ∧ (r = 0 ∨ 2 ^ (r - 1) ≤ n)

theorem isLen_nb {n r : Nat} (h : IsLen n r) : (r + 7) / 8 = nb n := by
  obtain ⟨h1, h2⟩ := h
  unfold nb
  split
  · rename_i hn
    subst hn
    rcases h2 with rfl | h2
    · rfl
    · have := Nat.pow_pos (n := r - 1) (show 0 < 2 by omega)
      omega
  · rename_i hn
    rcases h2 with rfl | h2
    · simp at h1; omega
    · have hr : 0 < r := by
        rcases Nat.eq_zero_or_pos r with h | h
        · subst h; simp at h1; omega
        · exact h
      have q1 : n.log2 < r := (Nat.log2_lt hn).2 h1
      have q2 : r - 1 ≤ n.log2 := (Nat.le_log2 hn).2 h2
      have : n.log2 = r - 1 := by omega
      rw [this]
      omega

theorem nb_lt (n : Nat) : n < 256 ^ nb n := by
  unfold nb
  split
  · rename_i h; subst h; simp
  · rename_i h
    have h1 : n < 2 ^ (n.log2 + 1) := Nat.lt_log2_self
    have h2 : 256 ^ (n.log2 / 8 + 1) = 2 ^ (8 * (n.log2 / 8 + 1)) := by rw [Nat.pow_mul]
    rw [h2]
    exact Nat.lt_of_lt_of_le h1 (Nat.pow_le_pow_right (by omega) (by omega))
theorem nb_le {n : Nat} (h : 0 < n) : 256 ^ (nb n - 1) ≤ n := by
  unfold nb
  rw [if_neg (by omega)]
  have h1 : 2 ^ n.log2 ≤ n := Nat.log2_self_le (by omega)
  have h2 : 256 ^ (n.log2 / 8 + 1 - 1) = 2 ^ (8 * (n.log2 / 8)) := by rw [Nat.add_sub_cancel, Nat.pow_mul]
  rw [h2]
  exact Nat.le_trans (Nat.pow_le_pow_right (by omega) (by omega)) h1
theorem nb_zero : nb 0 = 0 := rfl
theorem nb_pos {n : Nat} (h : 0 < n) : 0 < nb n := by unfold nb; rw [if_neg (by omega)]; omega
theorem nb_8 {n : Nat} (h : n < 18446744073709551616) : nb n ≤ 8 := by
  rcases Nat.eq_zero_or_pos n with rfl | h0
  · simp [nb_zero]
  · have h1 := nb_le h0
    apply Classical.byContradiction
    intro h2
    have h3 : 256 ^ 8 ≤ 256 ^ (nb n - 1) := Nat.pow_le_pow_right (by omega) (by omega)
    have h4 : (256 : Nat) ^ 8 = 18446744073709551616 := by decide
    omega

theorem nb_uniq {n r : Nat} (h1 : n < 256 ^ (r + 1)) (h2 : 256 ^ r ≤ n) : nb n = r + 1 := by
  have hn : n ≠ 0 := by have := Nat.pow_pos (n := r) (show 0 < 256 by omega); omega
  have q1 := nb_lt n
  have q2 := nb_le (n := n) (by omega)
  have q3 : r < nb n := by
    apply Classical.byContradiction; intro h
    have := Nat.pow_le_pow_right (show 0 < 256 by omega) (show nb n ≤ r by omega)
    omega
  have q4 : nb n - 1 < r + 1 := by
    apply Classical.byContradiction; intro h
    have := Nat.pow_le_pow_right (show 0 < 256 by omega) (show r + 1 ≤ nb n - 1 by omega)
    omega
  omega
theorem nb_step {n : Nat} (hn : n ≠ 0) : nb n = nb (n / 256) + 1 := by
  rcases Nat.eq_zero_or_pos (n / 256) with h | h
  · rw [h]
    have : nb 0 = 0 := rfl
    rw [this]
    exact nb_uniq (by omega) (by omega)
  · have q1 := nb_lt (n / 256)
    have q2 := nb_le (n := n / 256) (by omega)
    have h0 : 0 < nb (n / 256) := by
      apply Classical.byContradiction; intro h'
      have : nb (n / 256) = 0 := by omega
      rw [this] at q1; simp at q1; omega
    refine nb_uniq ?_ ?_
    · rw [Nat.pow_succ]; exact (Nat.div_lt_iff_lt_mul (by omega)).1 q1
    · have : nb (n / 256) = nb (n / 256) - 1 + 1 := by omega
      rw [this, Nat.pow_succ]; exact (Nat.le_div_iff_mul_le (by omega)).1 q2
theorem be_snoc (r n : Nat) : be (r + 1) n = be r (n / 256) ++ [b8 n] := by
  induction r with
  | zero => simp [be]
  | succ r ih =>
    have e : n / 256 / 256 ^ r = n / 256 ^ (r + 1) := by rw [Nat.div_div_eq_div_mul, Nat.pow_succ, Nat.mul_comm]
    rw [be, ih, be, e, List.cons_append]
theorem dg_zero : dg 0 = [] := rfl
theorem dg_step {n : Nat} (hn : n ≠ 0) : dg n = dg (n / 256) ++ [b8 n] := by
  rw [dg, nb_step hn, be_snoc, dg]

theorem isLen_shift {n k r : Nat} (h : IsLen (n / 2 ^ k) r) (h0 : n / 2 ^ k ≠ 0) : IsLen n (k + r) := by
  obtain ⟨h1, h2⟩ := h
  have hk := Nat.pow_pos (n := k) (show 0 < 2 by omega)
  have hr : 0 < r := by
    rcases Nat.eq_zero_or_pos r with h | h
    · subst h; rw [Nat.pow_zero] at h1; exact absurd (Nat.lt_one_iff.1 h1) h0
    · exact h
  refine ⟨?_, .inr ?_⟩
  · rw [Nat.pow_add, Nat.mul_comm]
    exact (Nat.div_lt_iff_lt_mul hk).1 h1
  · have h2 := h2.resolve_left (by omega)
    rw [show k + r - 1 = k + (r - 1) by omega, Nat.pow_add, Nat.mul_comm]
    exact (Nat.le_div_iff_mul_le hk).1 h2
def lenTab (f : Nat → Option UInt8) : Bool := (List.range 256).all fun i => match f i with
  | some r => decide (i < 2 ^ r.toNat) && (r.toNat == 0 || decide (2 ^ (r.toNat - 1) ≤ i)) && decide (r.toNat ≤ 8)
  | none => false
theorem lenTab_spec {f : Nat → Option UInt8} (h : lenTab f = true) {i : Nat} (hi : i < 256) : ∃ r : UInt8, f i = some r ∧ IsLen i r.toNat ∧ r.toNat ≤ 8 := by
  have h1 := List.all_eq_true.1 h i (List.mem_range.2 hi)
  split at h1
  · rename_i r hr
    simp only [Bool.and_eq_true, Bool.or_eq_true, decide_eq_true_eq, beq_iff_eq] at h1
    exact ⟨r, hr, ⟨h1.1.1, h1.1.2⟩, h1.2⟩
  · simp at h1

end Go.EW
