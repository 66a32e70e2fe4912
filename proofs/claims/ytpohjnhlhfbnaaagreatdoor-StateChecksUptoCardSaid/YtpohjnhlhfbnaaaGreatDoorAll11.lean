import Derived.Test.YtpohjnhlhfbnaaaGreatDoorAll10
import Derived.Test.YtpohjnhlhfbnaaaGreatDoorAll8
import Derived.Test.YtpohjnhlhfbnaaaGreatDoorAll7
namespace Go.Proofs.YtpohjnhlhfbnaaaGreatDoor
open Go Go.EW
set_option linter.unusedSimpArgs false
set_option linter.unusedVariables false
/- What bytes are read as: plain. -/

/-- A reader's place, its error. -/
abbrev Rs := Nat × Nat
def tkU (l : List UInt8) (σ : Rs) : Rs × Int := ((σ.1 + (uS (l.drop σ.1) σ.2 1125899906842624).2.2, (uS (l.drop σ.1) σ.2 1125899906842624).1), ((uS (l.drop σ.1) σ.2 1125899906842624).2.1 : Nat))
def tkN (l : List UInt8) (m : Int) (σ : Rs) : Rs × Nat := ((σ.1 + (nS (l.drop σ.1) σ.2 m).2.2, (nS (l.drop σ.1) σ.2 m).1), (nS (l.drop σ.1) σ.2 m).2.1)
def tkH (l : List UInt8) (σ : Rs) : Rs × List UInt8 := ((σ.1 + (aS (l.drop σ.1) σ.2).2.2, (aS (l.drop σ.1) σ.2).1), (aS (l.drop σ.1) σ.2).2.1)
def rdPay (l : List UInt8) (σ : Rs) : Rs × Pay :=
  let a := tkU l σ; let b := tkU l a.1; let c := tkU l b.1; let d := tkU l c.1; let h := tkH l d.1
  (h.1, ⟨a.2, b.2, c.2, d.2, h.2⟩)
def itP (l : List UInt8) (σ : Rs) : Nat → Rs × List Pay
  | 0 => (σ, [])
  | n + 1 => ((rdPay l (itP l σ n).1).1, (itP l σ n).2 ++ [(rdPay l (itP l σ n).1).2])
def itK (l : List UInt8) (σ : Rs) : Nat → Rs × List Int
  | 0 => (σ, [])
  | n + 1 => ((tkU l (itK l σ n).1).1, (itK l σ n).2 ++ [(tkU l (itK l σ n).1).2])
def rdHol (l : List UInt8) (σ : Rs) : Rs × Hol :=
  let a := tkU l σ; let b := tkU l a.1; let c := tkN l 16 b.1; let k := itK l c.1 c.2
  (k.1, ⟨a.2, b.2, k.2⟩)
def itH (l : List UInt8) (σ : Rs) : Nat → Rs × List Hol
  | 0 => (σ, [])
  | n + 1 => ((rdHol l (itH l σ n).1).1, (itH l σ n).2 ++ [(rdHol l (itH l σ n).1).2])
def rdSta (l : List UInt8) : Rs × Sta :=
  let a := tkU l (0, 0); let b := tkU l a.1; let c := tkU l b.1; let n := tkN l 8 c.1; let p := itP l n.1 n.2; let m := tkN l 8 p.1; let h := itH l m.1 m.2
  (h.1, ⟨a.2, b.2, c.2, p.2, h.2⟩)
/-- The state that bytes are, or the error. -/
def decS (l : List UInt8) : Sta × Nat :=
  if (rdSta l).1.2 ≠ 0 ∨ (rdSta l).1.1 < l.length ∨ mayS (rdSta l).2 = false then (zSta, 3) else ((rdSta l).2, 0)

/-! ### an error stays -/
theorem tkU_e {l : List UInt8} {σ : Rs} (h : σ.2 ≠ 0) : (tkU l σ).1 = σ := by obtain ⟨p, e⟩ := σ; simp [tkU, uS, show e ≠ 0 from h]
theorem tkN_e {l : List UInt8} {m : Int} {σ : Rs} (h : σ.2 ≠ 0) : tkN l m σ = (σ, 0) := by obtain ⟨p, e⟩ := σ; simp [tkN, nS, show e ≠ 0 from h]
theorem tkH_e {l : List UInt8} {σ : Rs} (h : σ.2 ≠ 0) : (tkH l σ).1 = σ := by obtain ⟨p, e⟩ := σ; simp [tkH, aS, show e ≠ 0 from h]
theorem rdPay_e {l : List UInt8} {σ : Rs} (h : σ.2 ≠ 0) : (rdPay l σ).1 = σ := by simp [rdPay, tkU_e h, tkH_e h]
theorem itP_e {l : List UInt8} {σ : Rs} (h : σ.2 ≠ 0) : ∀ n, (itP l σ n).1 = σ
  | 0 => rfl
  | n + 1 => by simp [itP, itP_e h n, rdPay_e h]
theorem itK_e {l : List UInt8} {σ : Rs} (h : σ.2 ≠ 0) : ∀ n, (itK l σ n).1 = σ
  | 0 => rfl
  | n + 1 => by simp [itK, itK_e h n, tkU_e h]
theorem rdHol_e {l : List UInt8} {σ : Rs} (h : σ.2 ≠ 0) : (rdHol l σ).1 = σ := by simp [rdHol, tkU_e h, tkN_e h, itK_e h]
theorem itH_e {l : List UInt8} {σ : Rs} (h : σ.2 ≠ 0) : ∀ n, (itH l σ n).1 = σ
  | 0 => rfl
  | n + 1 => by simp [itH, itH_e h n, rdHol_e h]
theorem itP_stay {l : List UInt8} {σ : Rs} {i : Nat} (h : (itP l σ i).1.2 ≠ 0) : ∀ k, (itP l σ (i + k)).1 = (itP l σ i).1
  | 0 => rfl
  | k + 1 => by
    have := itP_stay h k
    show (rdPay l (itP l σ (i + k)).1).1 = _
    rw [this, rdPay_e h]
theorem itK_stay {l : List UInt8} {σ : Rs} {i : Nat} (h : (itK l σ i).1.2 ≠ 0) : ∀ k, (itK l σ (i + k)).1 = (itK l σ i).1
  | 0 => rfl
  | k + 1 => by
    have := itK_stay h k
    show (tkU l (itK l σ (i + k)).1).1 = _
    rw [this, tkU_e h]
theorem itH_stay {l : List UInt8} {σ : Rs} {i : Nat} (h : (itH l σ i).1.2 ≠ 0) : ∀ k, (itH l σ (i + k)).1 = (itH l σ i).1
  | 0 => rfl
  | k + 1 => by
    have := itH_stay h k
    show (rdHol l (itH l σ (i + k)).1).1 = _
    rw [this, rdHol_e h]

/-! ### nothing is read past the end; what is read is of the right kind -/
theorem tkU_p {l : List UInt8} {σ : Rs} (h : σ.1 ≤ l.length) : (tkU l σ).1.1 ≤ l.length ∧ 0 ≤ (tkU l σ).2 ∧ (tkU l σ).2 ≤ 1125899906842624 := by
  simp only [tkU, uS]
  split
  · exact ⟨by simpa using h, by simp, by simp⟩
  · have := numS_ok (l.drop σ.1) 1125899906842624
    rw [List.length_drop] at this
    exact ⟨by omega, by omega, by omega⟩
theorem cntS_p (b : List UInt8) (m : Int) : (cntS b m).2.2 ≤ b.length ∧ ((cntS b m).2.1 : Int) ≤ max 0 m := by
  have := numS_ok b (max 0 m).toNat
  simp only [cntS]
  split
  · simp; omega
  split
  · simp; omega
  · omega
theorem tkN_p {l : List UInt8} {m : Int} {σ : Rs} (h : σ.1 ≤ l.length) : (tkN l m σ).1.1 ≤ l.length ∧ ((tkN l m σ).2 : Int) ≤ max 0 m := by
  simp only [tkN, nS]
  split
  · exact ⟨by simpa using h, by simp; omega⟩
  · have := cntS_p (l.drop σ.1) m
    rw [List.length_drop] at this
    exact ⟨by omega, this.2⟩
theorem tkH_p {l : List UInt8} {σ : Rs} (h : σ.1 ≤ l.length) : (tkH l σ).1.1 ≤ l.length ∧ (tkH l σ).2.length = 32 := by
  simp only [tkH, aS, hashS]
  split
  · exact ⟨by simpa using h, by simp [hz]⟩
  · split
    · exact ⟨by simpa using h, by simp [hz]⟩
    · rename_i h1 h2
      rw [List.length_drop] at h2
      exact ⟨by show σ.1 + 32 ≤ _; omega, by simp; omega⟩
theorem rdPay_p {l : List UInt8} {σ : Rs} (h : σ.1 ≤ l.length) : (rdPay l σ).1.1 ≤ l.length ∧ (rdPay l σ).2.ok := by
  have a := tkU_p h
  have b := tkU_p a.1
  have c := tkU_p b.1
  have d := tkU_p c.1
  have e := tkH_p d.1
  refine ⟨e.1, ⟨?_, ?_, ?_, ?_, e.2⟩⟩ <;> simp only [rdPay, i64] <;> omega
theorem itP_p {l : List UInt8} {σ : Rs} (h : σ.1 ≤ l.length) : ∀ n, (itP l σ n).1.1 ≤ l.length ∧ (itP l σ n).2.length = n ∧ ∀ p ∈ (itP l σ n).2, p.ok
  | 0 => ⟨h, rfl, by simp [itP]⟩
  | n + 1 => by
    have ih := itP_p h n
    have q := rdPay_p ih.1
    refine ⟨q.1, by simp [itP, ih.2.1], ?_⟩
    intro p hp
    simp only [itP, List.mem_append, List.mem_singleton] at hp
    rcases hp with hp | rfl
    · exact ih.2.2 p hp
    · exact q.2
theorem itK_p {l : List UInt8} {σ : Rs} (h : σ.1 ≤ l.length) : ∀ n, (itK l σ n).1.1 ≤ l.length ∧ (itK l σ n).2.length = n ∧ ∀ p ∈ (itK l σ n).2, i64 p
  | 0 => ⟨h, rfl, by simp [itK]⟩
  | n + 1 => by
    have ih := itK_p h n
    have q := tkU_p ih.1
    refine ⟨q.1, by simp [itK, ih.2.1], ?_⟩
    intro p hp
    simp only [itK, List.mem_append, List.mem_singleton] at hp
    rcases hp with hp | rfl
    · exact ih.2.2 p hp
    · unfold i64; omega
theorem rdHol_p {l : List UInt8} {σ : Rs} (h : σ.1 ≤ l.length) : (rdHol l σ).1.1 ≤ l.length ∧ (rdHol l σ).2.ok ∧ (rdHol l σ).2.keys.length ≤ 16 := by
  have a := tkU_p h
  have b := tkU_p a.1
  have c := tkN_p (m := 16) b.1
  have d := itK_p c.1 (tkN l 16 (tkU l (tkU l σ).1).1).2
  have e : (rdHol l σ).2.keys.length = (tkN l 16 (tkU l (tkU l σ).1).1).2 := d.2.1
  refine ⟨d.1, ⟨?_, ?_, d.2.2, by omega⟩, by omega⟩ <;> simp only [rdHol, i64] <;> omega
theorem itH_p {l : List UInt8} {σ : Rs} (h : σ.1 ≤ l.length) : ∀ n, (itH l σ n).1.1 ≤ l.length ∧ (itH l σ n).2.length = n ∧ ∀ p ∈ (itH l σ n).2, p.ok ∧ p.keys.length ≤ 16
  | 0 => ⟨h, rfl, by simp [itH]⟩
  | n + 1 => by
    have ih := itH_p h n
    have q := rdHol_p ih.1
    refine ⟨q.1, by simp [itH, ih.2.1], ?_⟩
    intro p hp
    simp only [itH, List.mem_append, List.mem_singleton] at hp
    rcases hp with hp | rfl
    · exact ih.2.2 p hp
    · exact q.2
theorem rdSta_p (l : List UInt8) : (rdSta l).1.1 ≤ l.length ∧ (rdSta l).2.ok ∧ (rdSta l).2.small := by
  have a := tkU_p (l := l) (σ := (0, 0)) (by simp)
  have b := tkU_p a.1
  have c := tkU_p b.1
  have n := tkN_p (m := 8) c.1
  have p := itP_p n.1 (tkN l 8 (tkU l (tkU l (tkU l (0, 0)).1).1).1).2
  have m := tkN_p (m := 8) p.1
  have h := itH_p m.1 (tkN l 8 (itP l (tkN l 8 (tkU l (tkU l (tkU l (0, 0)).1).1).1).1 (tkN l 8 (tkU l (tkU l (tkU l (0, 0)).1).1).1).2).1).2
  have e1 : (rdSta l).2.pays.length = (tkN l 8 (tkU l (tkU l (tkU l (0, 0)).1).1).1).2 := p.2.1
  have e2 : (rdSta l).2.holds.length = _ := h.2.1
  refine ⟨h.1, ⟨?_, ?_, ?_, p.2.2, fun x hx => (h.2.2 x hx).1, by omega, by omega⟩, by omega, by omega, fun x hx => by have := (h.2.2 x hx).2; omega⟩ <;> simp only [rdSta, i64] <;> omega
theorem decS_p (l : List UInt8) : (decS l).1.ok ∧ (decS l).1.small := by
  have h := rdSta_p l
  unfold decS
  split
  · exact ⟨by simp [zSta, Sta.ok, i64], by simp [zSta, Sta.small]⟩
  · exact ⟨h.2.1, h.2.2⟩

/-! ### what is read is told by the same bytes again -/
def Rd (l : List UInt8) (σ : Rs) (b : List UInt8) (τ : Rs) : Prop := τ.2 = 0 → σ.2 = 0 ∧ l.drop σ.1 = b ++ l.drop τ.1
theorem Rd.comp {l a b : List UInt8} {σ τ ρ : Rs} (h1 : Rd l σ a τ) (h2 : Rd l τ b ρ) : Rd l σ (a ++ b) ρ := by
  intro h
  obtain ⟨q1, q2⟩ := h2 h
  obtain ⟨q3, q4⟩ := h1 q1
  exact ⟨q3, by rw [q4, q2, List.append_assoc]⟩
theorem Rd.refl (l : List UInt8) (σ : Rs) : Rd l σ [] σ := fun h => ⟨h, rfl⟩
theorem u64n_ofNat {n : Nat} (h : n < 18446744073709551616) : u64n (n : Int) = n := by unfold u64n; omega
theorem tkU_rd (l : List UInt8) (σ : Rs) : Rd l σ (uB (tkU l σ).2) (tkU l σ).1 := by
  intro h
  simp only [tkU, uS] at h ⊢
  split at h
  · rename_i he; exact absurd h he
  rename_i he
  rw [if_neg he]
  have h1 := num_inv h
  have h2 := numS_ok (l.drop σ.1) 1125899906842624
  refine ⟨by omega, ?_⟩
  rw [uB, u64n_ofNat h2.1, ← List.drop_drop]
  exact h1.1
theorem tkN_rd (l : List UInt8) (m : Int) (σ : Rs) : Rd l σ (uB ((tkN l m σ).2 : Int)) (tkN l m σ).1 := by
  intro h
  simp only [tkN, nS] at h ⊢
  split at h
  · rename_i he; exact absurd h he
  rename_i he
  rw [if_neg he]
  simp only [cntS] at h ⊢
  split at h
  · rename_i he; exact absurd h he
  rename_i he2
  rw [if_neg he2]
  split at h
  · simp at h
  rename_i he3
  rw [if_neg he3]
  have h1 := num_inv h
  have h2 := numS_ok (l.drop σ.1) (max 0 m).toNat
  refine ⟨by omega, ?_⟩
  rw [uB, u64n_ofNat h2.1, ← List.drop_drop]
  exact h1.1
theorem tkH_rd (l : List UInt8) (σ : Rs) : Rd l σ (tkH l σ).2 (tkH l σ).1 := by
  intro h
  simp only [tkH, aS, hashS] at h ⊢
  split at h
  · rename_i he; exact absurd h he
  rename_i he
  rw [if_neg he]
  split at h
  · simp at h
  rename_i he3
  rw [if_neg he3]
  refine ⟨by omega, ?_⟩
  show _ = List.take 32 _ ++ l.drop (σ.1 + 32)
  rw [← List.drop_drop, List.take_append_drop]
theorem rdPay_rd (l : List UInt8) (σ : Rs) : Rd l σ (payB (rdPay l σ).2) (rdPay l σ).1 := by
  have h := ((((tkU_rd l σ).comp (tkU_rd l _)).comp (tkU_rd l _)).comp (tkU_rd l _)).comp (tkH_rd l _)
  have e : payB (rdPay l σ).2 = uB (tkU l σ).2 ++ uB (tkU l (tkU l σ).1).2 ++ uB (tkU l (tkU l (tkU l σ).1).1).2 ++ uB (tkU l (tkU l (tkU l (tkU l σ).1).1).1).2 ++ (tkH l (tkU l (tkU l (tkU l (tkU l σ).1).1).1).1).2 := by
    simp [payB, usB, rdPay]
  rw [e]
  exact h
theorem itP_rd (l : List UInt8) (σ : Rs) : ∀ n, Rd l σ ((itP l σ n).2.flatMap payB) (itP l σ n).1
  | 0 => Rd.refl l σ
  | n + 1 => by
    have h := (itP_rd l σ n).comp (rdPay_rd l _)
    have e : (itP l σ (n + 1)).2.flatMap payB = (itP l σ n).2.flatMap payB ++ payB (rdPay l (itP l σ n).1).2 := by simp [itP]
    rw [e]
    exact h
theorem itK_rd (l : List UInt8) (σ : Rs) : ∀ n, Rd l σ (usB (itK l σ n).2) (itK l σ n).1
  | 0 => Rd.refl l σ
  | n + 1 => by
    have h := (itK_rd l σ n).comp (tkU_rd l _)
    have e : usB (itK l σ (n + 1)).2 = usB (itK l σ n).2 ++ uB (tkU l (itK l σ n).1).2 := by simp [itK, usB]
    rw [e]
    exact h
theorem rdHol_rd {l : List UInt8} {σ : Rs} (hp : σ.1 ≤ l.length) : Rd l σ (holB (rdHol l σ).2) (rdHol l σ).1 := by
  have h := (((tkU_rd l σ).comp (tkU_rd l _)).comp (tkN_rd l 16 _)).comp (itK_rd l _ (tkN l 16 (tkU l (tkU l σ).1).1).2)
  have hk := (itK_p (tkN_p (m := 16) (tkU_p (tkU_p hp).1).1).1 (tkN l 16 (tkU l (tkU l σ).1).1).2).2.1
  have e : holB (rdHol l σ).2 = uB (tkU l σ).2 ++ uB (tkU l (tkU l σ).1).2 ++ uB ((tkN l 16 (tkU l (tkU l σ).1).1).2 : Int) ++ usB (itK l (tkN l 16 (tkU l (tkU l σ).1).1).1 (tkN l 16 (tkU l (tkU l σ).1).1).2).2 := by
    simp only [holB, rdHol, hk]
    simp [usB]
  rw [e]
  exact h
theorem itH_rd {l : List UInt8} {σ : Rs} (hp : σ.1 ≤ l.length) : ∀ n, Rd l σ ((itH l σ n).2.flatMap holB) (itH l σ n).1
  | 0 => Rd.refl l σ
  | n + 1 => by
    have h := (itH_rd hp n).comp (rdHol_rd (itH_p hp n).1)
    have e : (itH l σ (n + 1)).2.flatMap holB = (itH l σ n).2.flatMap holB ++ holB (rdHol l (itH l σ n).1).2 := by simp [itH]
    rw [e]
    exact h
theorem rdSta_rd (l : List UInt8) : Rd l (0, 0) (encS (rdSta l).2) (rdSta l).1 := by
  have rA := tkU_rd l (0, 0)
  have qA := tkU_p (l := l) (σ := (0, 0)) (by simp)
  obtain ⟨A, hA⟩ : ∃ A, tkU l (0, 0) = A := ⟨_, rfl⟩
  rw [hA] at rA qA
  have rB := tkU_rd l A.1
  have qB := tkU_p qA.1
  obtain ⟨B, hB⟩ : ∃ B, tkU l A.1 = B := ⟨_, rfl⟩
  rw [hB] at rB qB
  have rC := tkU_rd l B.1
  have qC := tkU_p qB.1
  obtain ⟨C, hC⟩ : ∃ C, tkU l B.1 = C := ⟨_, rfl⟩
  rw [hC] at rC qC
  have rN := tkN_rd l 8 C.1
  have qN := tkN_p (m := 8) qC.1
  obtain ⟨N, hN⟩ : ∃ N, tkN l 8 C.1 = N := ⟨_, rfl⟩
  rw [hN] at rN qN
  have rP := itP_rd l N.1 N.2
  have qP := itP_p qN.1 N.2
  obtain ⟨P, hP⟩ : ∃ P, itP l N.1 N.2 = P := ⟨_, rfl⟩
  rw [hP] at rP qP
  have rM := tkN_rd l 8 P.1
  have qM := tkN_p (m := 8) qP.1
  obtain ⟨M, hM⟩ : ∃ M, tkN l 8 P.1 = M := ⟨_, rfl⟩
  rw [hM] at rM qM
  have rH := itH_rd qM.1 M.2
  have qH := itH_p qM.1 M.2
  obtain ⟨Z, hZ⟩ : ∃ Z, itH l M.1 M.2 = Z := ⟨_, rfl⟩
  rw [hZ] at rH qH
  have hrs : rdSta l = (Z.1, ⟨A.2, B.2, C.2, P.2, Z.2⟩) := by simp only [rdSta, hA, hB, hC, hN, hP, hM, hZ]
  have e : encS ⟨A.2, B.2, C.2, P.2, Z.2⟩ = uB A.2 ++ uB B.2 ++ uB C.2 ++ uB (N.2 : Int) ++ P.2.flatMap payB ++ uB (M.2 : Int) ++ Z.2.flatMap holB := by
    simp [encS, usB, qP.2.1, qH.2.1]
  rw [hrs]
  show Rd l (0, 0) (encS ⟨A.2, B.2, C.2, P.2, Z.2⟩) Z.1
  rw [e]
  exact (((((rA.comp rB).comp rC).comp rN).comp rP).comp rM).comp rH
/-- What is read without an error is told by the same bytes. -/
theorem decS_enc {l : List UInt8} (h : (decS l).2 = 0) : encS (decS l).1 = l := by
  unfold decS at h ⊢
  split at h
  · simp at h
  rename_i hn
  rw [if_neg hn]
  have h1 := rdSta_p l
  have h2 := (rdSta_rd l (by omega)).2
  rw [List.drop_eq_nil_of_le (i := (rdSta l).1.1) (by omega), List.append_nil] at h2
  exact h2.symm

end Go.Proofs.YtpohjnhlhfbnaaaGreatDoor

namespace Go.Proofs.YtpohjnhlhfbnaaaGreatDoor
open Go Go.EW
set_option linter.unusedSimpArgs false
set_option linter.unusedVariables false

@[simp] def l_take_1 (_ : Unit) : List EOp := [⟨0, (some 1), none, (.q (.mov (.k (.int .i64 0)))), []⟩]
@[simp] def b_take_2 (_ : Unit) : EB := reg0 (hid l_take_1) 1
@[simp] def l_take_3 (_ : Unit) : List EOp := [⟨0, (some 2), none, (.q (.ldc (.t 0))), []⟩, ⟨1, (some 3), none, (.call 22 [(.t 2), (.k (.int .u64 1125899906842624))]), []⟩, ⟨2, (some 4), none, (.q (.cnv .i64 (.t 3))), []⟩, ⟨3, (some 1), none, (.q (.mov (.t 4))), []⟩]
@[simp] def b_take_4 (_ : Unit) : EB := reg0 (hid l_take_3) 4
@[simp] def b_take_5 (_ : Unit) : EB := .seq (hid b_take_4) .ret
@[simp] def b_take_6 (_ : Unit) : EB := .seq (hid b_take_2) (hid b_take_5)
def c_take : EB × List QOp × Nat := ((hid b_take_6), [(.mov (.t 1))], 5)
theorem k_take : cfun Tryz.prog 21 = some c_take := by kernel_rfl

@[simp] def l_Decode_1 (_ : Unit) : List EOp := [⟨0, (some 2), none, (.q (.alloc 33 [(.int .i64 0), (.int .i64 0), (.int .i64 0), (.slice none 0 0), (.slice none 0 0)])), []⟩, ⟨1, (some 3), none, (.q (.mov (.k .nilIface))), []⟩]
@[simp] def b_Decode_2 (_ : Unit) : EB := reg0 (hid l_Decode_1) 2
@[simp] def l_Decode_3 (_ : Unit) : List EOp := [⟨0, (some 8), none, (.q (.mov (.t 0))), []⟩, ⟨1, (some 9), none, (.call 20 [(.t 8)]), []⟩, ⟨2, (some 4), none, (.q (.alloc 57 [(.pointer none)])), []⟩, ⟨3, none, none, (.sto 1 (.t 4) (.t 9)), []⟩]
@[simp] def b_Decode_4 (_ : Unit) : EB := reg0 (hid l_Decode_3) 4
@[simp] def l_Decode_5 (_ : Unit) : List EOp := [⟨0, (some 10), none, (.q (.mkf 21 [(.t 4)])), []⟩, ⟨1, (some 5), none, (.q (.mov (.t 10))), []⟩]
@[simp] def b_Decode_6 (_ : Unit) : EB := reg0 (hid l_Decode_5) 2
@[simp] def l_Decode_8 (_ : Unit) : List EOp := [⟨6, (some 17), none, (.q (.build [(.int .i64 0), (.int .i64 0)] [(0, 1, (.t 14)), (1, 1, (.t 16))])), []⟩, ⟨7, (some 18), none, (.q (.build [(.int .i64 0), (.int .i64 0), (.int .i64 0), (.slice none 0 0), (.slice none 0 0)] [(0, 1, (.t 12)), (1, 2, (.t 17))])), []⟩, ⟨8, (some 6), none, (.q (.alloc 33 [(.int .i64 0), (.int .i64 0), (.int .i64 0), (.slice none 0 0), (.slice none 0 0)])), []⟩, ⟨9, none, none, (.fz (.sto 5 (.t 6) (.t 18))), []⟩]
@[simp] def l_Decode_7 (_ : Unit) : List EOp := ⟨0, (some 11), none, (.q (.mov (.t 5))), []⟩ :: ⟨1, (some 12), none, (.clo (.t 11) []), []⟩ :: ⟨2, (some 13), none, (.q (.mov (.t 5))), []⟩ :: ⟨3, (some 14), none, (.clo (.t 13) []), []⟩ :: ⟨4, (some 15), none, (.q (.mov (.t 5))), []⟩ :: ⟨5, (some 16), none, (.clo (.t 15) []), []⟩ :: hid l_Decode_8
@[simp] def b_Decode_9 (_ : Unit) : EB := reg0 (hid l_Decode_7) 10
@[simp] def l_Decode_10 (_ : Unit) : List EOp := [⟨0, (some 19), none, (.q (.ldc (.t 4))), []⟩, ⟨1, (some 20), none, (.call 23 [(.t 19), (.k (.int .i64 8))]), []⟩, ⟨2, (some 21), none, (.q (.mov (.k (.int .i64 0)))), []⟩]
@[simp] def b_Decode_11 (_ : Unit) : EB := reg0 (hid l_Decode_10) 3
@[simp] def l_Decode_12 (_ : Unit) : List EOp := [⟨0, (some 22), none, (.q (.bin .lss (.t 21) (.t 20))), []⟩]
@[simp] def b_Decode_13 (_ : Unit) : EB := reg0 (hid l_Decode_12) 1
@[simp] def b_Decode_14 (_ : Unit) : EB := .cond (.t 22) .skip (.exit 0)
@[simp] def l_Decode_17 (_ : Unit) : List EOp := [⟨12, (some 35), none, (.q (.build (([(.int .i64 0), (.int .i64 0), (.int .i64 0), (.int .i64 0)] : List Value) ++ zU8) [(0, 1, (.t 26)), (1, 1, (.t 28)), (2, 1, (.t 30)), (3, 1, (.t 32)), (4, 32, (.t 34))])), []⟩, ⟨13, (some 36), none, (.q (.bsl 36 (([(.int .i64 0), (.int .i64 0), (.int .i64 0), (.int .i64 0)] : List Value) ++ zU8) 1 [(0, (.t 35))])), []⟩, ⟨14, (some 37), none, (.app 65 36 64 (.t 24) (.t 36)), []⟩, ⟨15, (some 38), none, (.q (.fad 3 (.t 6))), []⟩, ⟨16, none, none, (.fz (.sto 1 (.t 38) (.t 37))), []⟩]
@[simp] def l_Decode_16 (_ : Unit) : List EOp := ⟨10, (some 33), none, (.q (.ldc (.t 4))), []⟩ :: ⟨3, (some 26), none, (.clo (.t 25) []), [0, 1, 4, 6, 8, 10]⟩ :: ⟨5, (some 28), none, (.clo (.t 27) []), [0, 1, 6, 8, 10]⟩ :: ⟨7, (some 30), none, (.clo (.t 29) []), [0, 1, 8, 10]⟩ :: ⟨9, (some 32), none, (.clo (.t 31) []), [0, 1, 10]⟩ :: ⟨11, (some 34), none, (.call 24 [(.t 33)]), [0, 1]⟩ :: hid l_Decode_17
@[simp] def l_Decode_15 (_ : Unit) : List EOp := ⟨0, (some 23), none, (.q (.fad 3 (.t 6))), []⟩ :: ⟨1, (some 24), none, (.q (.ldc (.t 23))), []⟩ :: ⟨2, (some 25), none, (.q (.mov (.t 5))), []⟩ :: ⟨4, (some 27), none, (.q (.mov (.t 5))), []⟩ :: ⟨6, (some 29), none, (.q (.mov (.t 5))), []⟩ :: ⟨8, (some 31), none, (.q (.mov (.t 5))), []⟩ :: hid l_Decode_16
@[simp] def b_Decode_18 (_ : Unit) : EB := reg1 (hid l_Decode_15) 17
@[simp] def b_Decode_19 (_ : Unit) : EB := .block 1 (hid b_Decode_18)
@[simp] def l_Decode_20 (_ : Unit) : List EOp := [⟨0, (some 39), none, (.q (.bin .add (.t 21) (.k (.int .i64 1)))), []⟩, ⟨1, (some 21), none, (.q (.mov (.t 39))), []⟩]
@[simp] def b_Decode_21 (_ : Unit) : EB := reg0 (hid l_Decode_20) 2
@[simp] def b_Decode_22 (_ : Unit) : EB := .seq (hid b_Decode_19) (hid b_Decode_21)
@[simp] def b_Decode_23 (_ : Unit) : EB := .seq (hid b_Decode_14) (hid b_Decode_22)
@[simp] def b_Decode_24 (_ : Unit) : EB := .seq (hid b_Decode_13) (hid b_Decode_23)
@[simp] def b_Decode_25 (_ : Unit) : EB := .loop (hid b_Decode_24)
@[simp] def b_Decode_26 (_ : Unit) : EB := .block 0 (hid b_Decode_25)
@[simp] def b_Decode_27 (_ : Unit) : EB := .seq (hid b_Decode_11) (hid b_Decode_26)
@[simp] def l_Decode_28 (_ : Unit) : List EOp := [⟨0, (some 40), none, (.q (.ldc (.t 4))), []⟩, ⟨1, (some 41), none, (.call 23 [(.t 40), (.k (.int .i64 8))]), []⟩, ⟨2, (some 42), none, (.q (.mov (.k (.int .i64 0)))), []⟩]
@[simp] def b_Decode_29 (_ : Unit) : EB := reg0 (hid l_Decode_28) 3
@[simp] def l_Decode_30 (_ : Unit) : List EOp := [⟨0, (some 43), none, (.q (.bin .lss (.t 42) (.t 41))), []⟩]
@[simp] def b_Decode_31 (_ : Unit) : EB := reg0 (hid l_Decode_30) 1
@[simp] def b_Decode_32 (_ : Unit) : EB := .cond (.t 43) .skip (.exit 2)
@[simp] def l_Decode_34 (_ : Unit) : List EOp := [⟨6, none, none, (.fz (.sto 3 (.t 7) (.t 48))), []⟩]
@[simp] def l_Decode_33 (_ : Unit) : List EOp := ⟨0, (some 44), none, (.q (.mov (.t 5))), []⟩ :: ⟨1, (some 45), none, (.clo (.t 44) []), []⟩ :: ⟨2, (some 46), none, (.q (.mov (.t 5))), []⟩ :: ⟨3, (some 47), none, (.clo (.t 46) []), []⟩ :: ⟨4, (some 48), none, (.q (.build [(.int .i64 0), (.int .i64 0), (.slice none 0 0)] [(0, 1, (.t 45)), (1, 1, (.t 47))])), []⟩ :: ⟨5, (some 7), none, (.q (.alloc 66 [(.int .i64 0), (.int .i64 0), (.slice none 0 0)])), []⟩ :: hid l_Decode_34
@[simp] def b_Decode_35 (_ : Unit) : EB := reg0 (hid l_Decode_33) 7
@[simp] def l_Decode_36 (_ : Unit) : List EOp := [⟨0, (some 49), none, (.q (.ldc (.t 4))), []⟩, ⟨1, (some 50), none, (.call 23 [(.t 49), (.k (.int .i64 16))]), []⟩, ⟨2, (some 51), none, (.q (.mov (.k (.int .i64 0)))), []⟩]
@[simp] def b_Decode_37 (_ : Unit) : EB := reg0 (hid l_Decode_36) 3
@[simp] def l_Decode_38 (_ : Unit) : List EOp := [⟨0, (some 52), none, (.q (.bin .lss (.t 51) (.t 50))), []⟩]
@[simp] def b_Decode_39 (_ : Unit) : EB := reg0 (hid l_Decode_38) 1
@[simp] def b_Decode_40 (_ : Unit) : EB := .cond (.t 52) .skip (.exit 4)
@[simp] def l_Decode_42 (_ : Unit) : List EOp := [⟨6, (some 59), none, (.q (.fad 2 (.t 7))), []⟩, ⟨7, none, none, (.fz (.sto 1 (.t 59) (.t 58))), []⟩]
@[simp] def l_Decode_41 (_ : Unit) : List EOp := ⟨0, (some 53), none, (.q (.fad 2 (.t 7))), []⟩ :: ⟨1, (some 54), none, (.q (.ldc (.t 53))), []⟩ :: ⟨2, (some 55), none, (.q (.mov (.t 5))), []⟩ :: ⟨3, (some 56), none, (.clo (.t 55) []), [0, 1]⟩ :: ⟨4, (some 57), none, (.q (.bsl 1 [(.int .i64 0)] 1 [(0, (.t 56))])), []⟩ :: ⟨5, (some 58), none, (.app 3 1 8 (.t 54) (.t 57)), []⟩ :: hid l_Decode_42
@[simp] def b_Decode_43 (_ : Unit) : EB := reg1 (hid l_Decode_41) 8
@[simp] def b_Decode_44 (_ : Unit) : EB := .block 5 (hid b_Decode_43)
@[simp] def l_Decode_45 (_ : Unit) : List EOp := [⟨0, (some 60), none, (.q (.bin .add (.t 51) (.k (.int .i64 1)))), []⟩, ⟨1, (some 51), none, (.q (.mov (.t 60))), []⟩]
@[simp] def b_Decode_46 (_ : Unit) : EB := reg0 (hid l_Decode_45) 2
@[simp] def b_Decode_47 (_ : Unit) : EB := .seq (hid b_Decode_44) (hid b_Decode_46)
@[simp] def b_Decode_48 (_ : Unit) : EB := .seq (hid b_Decode_40) (hid b_Decode_47)
@[simp] def b_Decode_49 (_ : Unit) : EB := .seq (hid b_Decode_39) (hid b_Decode_48)
@[simp] def b_Decode_50 (_ : Unit) : EB := .loop (hid b_Decode_49)
@[simp] def b_Decode_51 (_ : Unit) : EB := .block 4 (hid b_Decode_50)
@[simp] def b_Decode_52 (_ : Unit) : EB := .seq (hid b_Decode_37) (hid b_Decode_51)
@[simp] def l_Decode_54 (_ : Unit) : List EOp := [⟨6, none, none, (.fz (.sto 1 (.t 66) (.t 65))), []⟩]
@[simp] def l_Decode_53 (_ : Unit) : List EOp := ⟨0, (some 61), none, (.q (.fad 4 (.t 6))), []⟩ :: ⟨1, (some 62), none, (.q (.ldc (.t 61))), []⟩ :: ⟨2, (some 63), none, (.q (.lda 3 (.t 7))), []⟩ :: ⟨3, (some 64), none, (.fz (.q (.bsl 3 [(.int .i64 0), (.int .i64 0), (.slice none 0 0)] 1 [(0, (.t 63))]))), []⟩ :: ⟨4, (some 65), none, (.app 66 3 40 (.t 62) (.t 64)), []⟩ :: ⟨5, (some 66), none, (.q (.fad 4 (.t 6))), []⟩ :: hid l_Decode_54
@[simp] def b_Decode_55 (_ : Unit) : EB := reg0 (hid l_Decode_53) 7
@[simp] def b_Decode_56 (_ : Unit) : EB := .seq (hid b_Decode_52) (hid b_Decode_55)
@[simp] def b_Decode_57 (_ : Unit) : EB := .seq (hid b_Decode_35) (hid b_Decode_56)
@[simp] def b_Decode_58 (_ : Unit) : EB := .block 3 (hid b_Decode_57)
@[simp] def l_Decode_59 (_ : Unit) : List EOp := [⟨0, (some 67), none, (.q (.bin .add (.t 42) (.k (.int .i64 1)))), []⟩, ⟨1, (some 42), none, (.q (.mov (.t 67))), []⟩]
@[simp] def b_Decode_60 (_ : Unit) : EB := reg0 (hid l_Decode_59) 2
@[simp] def b_Decode_61 (_ : Unit) : EB := .seq (hid b_Decode_58) (hid b_Decode_60)
@[simp] def b_Decode_62 (_ : Unit) : EB := .seq (hid b_Decode_32) (hid b_Decode_61)
@[simp] def b_Decode_63 (_ : Unit) : EB := .seq (hid b_Decode_31) (hid b_Decode_62)
@[simp] def b_Decode_64 (_ : Unit) : EB := .loop (hid b_Decode_63)
@[simp] def b_Decode_65 (_ : Unit) : EB := .block 2 (hid b_Decode_64)
@[simp] def b_Decode_66 (_ : Unit) : EB := .seq (hid b_Decode_29) (hid b_Decode_65)
@[simp] def l_Decode_68 (_ : Unit) : List EOp := [⟨6, (some 74), (some (71, false)), (.q (.un .not (.t 73))), []⟩, ⟨7, (some 75), none, (.q (.pick (.t 71) (.k (.bool true)) (.t 74))), []⟩]
@[simp] def l_Decode_67 (_ : Unit) : List EOp := ⟨0, (some 68), none, (.q (.ldc (.t 4))), []⟩ :: ⟨1, (some 69), none, (.call 25 [(.t 68)]), []⟩ :: ⟨2, (some 70), none, (.q (.eqi true (.t 69))), []⟩ :: ⟨3, (some 71), none, (.q (.mov (.t 70))), []⟩ :: ⟨4, (some 72), (some (71, false)), (.q (.lda 5 (.t 6))), []⟩ :: ⟨5, (some 73), (some (71, false)), (.call 26 [(.t 72)]), []⟩ :: hid l_Decode_68
@[simp] def b_Decode_69 (_ : Unit) : EB := reg0 (hid l_Decode_67) 8
@[simp] def l_Decode_70 (_ : Unit) : List EOp := [⟨0, (some 76), none, (.q (.build [(.int .i64 0), (.int .i64 0), (.int .i64 0), (.slice none 0 0), (.slice none 0 0)] [])), []⟩, ⟨1, (some 77), none, (.q (.mki 68 (.k (.int .i64 3)))), []⟩, ⟨2, none, none, (.fz (.sto 5 (.t 2) (.t 76))), []⟩, ⟨3, (some 3), none, (.q (.mov (.t 77))), []⟩]
@[simp] def b_Decode_71 (_ : Unit) : EB := reg0 (hid l_Decode_70) 4
@[simp] def b_Decode_72 (_ : Unit) : EB := .seq (hid b_Decode_71) .ret
@[simp] def b_Decode_73 (_ : Unit) : EB := .cond (.t 75) (hid b_Decode_72) .skip
@[simp] def b_Decode_74 (_ : Unit) : EB := .seq (hid b_Decode_69) (hid b_Decode_73)
@[simp] def l_Decode_75 (_ : Unit) : List EOp := [⟨0, (some 78), none, (.q (.lda 5 (.t 6))), []⟩, ⟨1, none, none, (.fz (.sto 5 (.t 2) (.t 78))), []⟩, ⟨2, (some 3), none, (.q (.mov (.k .nilIface))), []⟩]
@[simp] def b_Decode_76 (_ : Unit) : EB := reg0 (hid l_Decode_75) 3
@[simp] def b_Decode_77 (_ : Unit) : EB := .seq (hid b_Decode_76) .ret
@[simp] def b_Decode_78 (_ : Unit) : EB := .seq (hid b_Decode_74) (hid b_Decode_77)
@[simp] def b_Decode_79 (_ : Unit) : EB := .seq (hid b_Decode_66) (hid b_Decode_78)
@[simp] def b_Decode_80 (_ : Unit) : EB := .seq (hid b_Decode_27) (hid b_Decode_79)
@[simp] def b_Decode_81 (_ : Unit) : EB := .seq (hid b_Decode_9) (hid b_Decode_80)
@[simp] def b_Decode_82 (_ : Unit) : EB := .seq (hid b_Decode_6) (hid b_Decode_81)
@[simp] def b_Decode_83 (_ : Unit) : EB := .seq (hid b_Decode_4) (hid b_Decode_82)
@[simp] def b_Decode_84 (_ : Unit) : EB := .seq (hid b_Decode_2) (hid b_Decode_83)
def c_Decode : EB × List QOp × Nat := ((hid b_Decode_84), [(.lda 5 (.t 2)), (.mov (.t 3))], 79)
theorem k_Decode : cfun Tryz.prog 6 = some c_Decode := by kernel_rfl


/-- A call that is handed the objects ids; each of them is not looked at out of order, or left as it is. -/
theorem callM {P : Program} {f : FuncId} {args args' : List EV} {H : Nat → Option EO} {base : Nat} {ok : Nat → Prop} {K : EV → (Nat → Option EO) → Go.EW.Tok → Prop} {post : EV → List (Option EO) → Prop} (ids : List Nat) {Hc : List EO}
    (h : ECalls P f args' Hc post) (hcon : conArgs H ids args = some args') (hin : objsIn H ids ids = some Hc) (hnd : ids.Nodup) (hre : ∀ i ∈ ids, i ∈ reach H (args.flatMap refsV)) (hok : ∀ i ∈ ids, ok i ∨ ∀ y H', post y H' → after H ids base H' i = H i)
    (hk : ∀ y H', post y H' → (args.flatMap (fzV ids) = [] ∨ (noSlV y = true ∧ ∀ x, some x ∈ H' → noSlO x = true)) ∧ H'.length ≤ ids.length + 16 ∧ K (renV (rnm ids base) y) (after H ids base H') Go.EW.Tok.on) : ECall P f args H base ok K :=
  ⟨ids, args', Hc, post, hcon, hin, hnd, hre, hok, h, fun y H' hp => ⟨⟨(hk y H' hp).1, (hk y H' hp).2.1⟩, (hk y H' hp).2.2⟩⟩

/-- A variable that holds a reader. -/
def TO (r : Nat) : EO := .box 57 [.ptr r 0]
def TkV (o : Nat) : EV := .v (.c (.clo 21 [(o, 0)]))
theorem take_body : bodyOK Tryz.prog 21 = true := by kernel_rfl

theorem take_ok (l : List UInt8) (σ : Rs) (hp : σ.1 ≤ l.length) (hl : l.length ≤ 1000000000) :
    ECalls Tryz.prog 21 [Ptr 0] [TO 1, RdO l σ.1 σ.2] fun y H' => H' = [some (TO 1), some (RdO l (tkU l σ).1.1 (tkU l σ).1.2)] ∧ y = I .i64 (tkU l σ).2 := by
  have h0 := tkU_p hp
  have w0 : IntKind.i64.wrap ((uS (l.drop σ.1) σ.2 1125899906842624).2.1 : Int) = (tkU l σ).2 := by
    rw [show ((uS (l.drop σ.1) σ.2 1125899906842624).2.1 : Int) = (tkU l σ).2 from rfl, wrap_i64 (by omega) (by omega)]
  refine ecalls k_take ?_
  simp [c_take, Ptr, TO]
  refine callH [1] (RdUint_all l σ.1 σ.2 1125899906842624 hp hl (by omega)) (by simp [Ptr, I, EV.lit, TO, RdO, TkV, Bs]) (by simp [Ptr, I, EV.lit, TO, RdO, TkV, Bs]) (by simp) (by simp [Ptr, I, EV.lit, TO, RdO, TkV, Bs]) (by simp [Wok]) ?_
  rintro y H' ⟨rfl, rfl⟩
  refine ⟨.inl (by simp [Ptr, I, EV.lit, TO, RdO, TkV, Bs]), le_ok rfl, ?_⟩
  simp [I, w0]
  exact fin [] (by decide) rfl rfl rfl ⟨rfl, rfl⟩

theorem RdCount_t (l : List UInt8) (m : Int) (σ : Rs) (hp : σ.1 ≤ l.length) (hl : l.length ≤ 1000000000) (hm : -9223372036854775808 ≤ m ∧ m ≤ 9223372036854775807) :
    ECalls Tryz.prog 23 [Ptr 0, I .i64 m] [RdO l σ.1 σ.2] fun y H' => H' = [some (RdO l (tkN l m σ).1.1 (tkN l m σ).1.2)] ∧ y = I .i64 (tkN l m σ).2 := RdCount_all l σ.1 σ.2 m hp hl hm

theorem RdHash_t (l : List UInt8) (σ : Rs) (hp : σ.1 ≤ l.length) (hl : l.length ≤ 1000000000) :
    ECalls Tryz.prog 24 [Ptr 0] [RdO l σ.1 σ.2] fun y H' => H' = [some (RdO l (tkH l σ).1.1 (tkH l σ).1.2)] ∧ y = Ag (tkH l σ).2 := RdHash_all l σ.1 σ.2 hp hl

set_option maxHeartbeats 4000000 in
theorem Decode_ok (l : List UInt8) (hl : l.length ≤ 100000000) : ECalls Tryz.prog 6 [Bs l] [] fun y H' => H' = [] ∧ y = SE (decS l) := by
  have hl' : l.length ≤ 1000000000 := by omega
  obtain ⟨A, hA⟩ : ∃ A, tkU l (0, 0) = A := ⟨_, rfl⟩
  have tA := take_ok l (0, 0) (by simp) hl'
  have qA := tkU_p (l := l) (σ := (0, 0)) (by simp)
  rw [hA] at tA qA
  obtain ⟨B, hB⟩ : ∃ B, tkU l A.1 = B := ⟨_, rfl⟩
  have tB := take_ok l A.1 qA.1 hl'
  have qB := tkU_p qA.1
  rw [hB] at tB qB
  obtain ⟨C, hC⟩ : ∃ C, tkU l B.1 = C := ⟨_, rfl⟩
  have tC := take_ok l B.1 qB.1 hl'
  have qC := tkU_p qB.1
  rw [hC] at tC qC
  obtain ⟨N, hN⟩ : ∃ N, tkN l 8 C.1 = N := ⟨_, rfl⟩
  have tN := RdCount_t l 8 C.1 qC.1 hl' (by omega)
  have qN := tkN_p (m := 8) qC.1
  rw [hN] at tN qN
  have qP := itP_p qN.1
  refine ecalls k_Decode ?_
  simp [c_Decode, Bs]
  refine call0 (Read_ok l) (by simp [Ptr, I, EV.lit, TO, RdO, TkV, Bs]) ?_
  rintro y H' ⟨rfl, rfl⟩
  refine ⟨.inl (by simp [Ptr, I, EV.lit, TO, RdO, TkV, Bs]), le_ok rfl, ?_⟩
  simp [Ptr, I, EV.lit, TO, RdO, TkV, Bs]
  refine ⟨take_body, ?_⟩
  refine callH [64, 48] (tA) (by simp [Ptr, I, EV.lit, TO, RdO, TkV, Bs]) (by simp [Ptr, I, EV.lit, TO, RdO, TkV, Bs]) (by simp) (by simp [Ptr, I, EV.lit, TO, RdO, TkV, Bs]) (by simp [Wok]) ?_
  rintro y H' ⟨rfl, rfl⟩
  refine ⟨.inl (by simp [Ptr, I, EV.lit, TO, RdO, TkV, Bs]), le_ok rfl, ?_⟩
  simp [Ptr, I, EV.lit, TO, RdO, TkV, Bs]
  refine ⟨take_body, ?_⟩
  refine callH [64, 48] (tB) (by simp [Ptr, I, EV.lit, TO, RdO, TkV, Bs]) (by simp [Ptr, I, EV.lit, TO, RdO, TkV, Bs]) (by simp) (by simp [Ptr, I, EV.lit, TO, RdO, TkV, Bs]) (by simp [Wok]) ?_
  rintro y H' ⟨rfl, rfl⟩
  refine ⟨.inl (by simp [Ptr, I, EV.lit, TO, RdO, TkV, Bs]), le_ok rfl, ?_⟩
  simp [Ptr, I, EV.lit, TO, RdO, TkV, Bs]
  refine ⟨take_body, ?_⟩
  refine callH [64, 48] (tC) (by simp [Ptr, I, EV.lit, TO, RdO, TkV, Bs]) (by simp [Ptr, I, EV.lit, TO, RdO, TkV, Bs]) (by simp) (by simp [Ptr, I, EV.lit, TO, RdO, TkV, Bs]) (by simp [Wok]) ?_
  rintro y H' ⟨rfl, rfl⟩
  refine ⟨.inl (by simp [Ptr, I, EV.lit, TO, RdO, TkV, Bs]), le_ok rfl, ?_⟩
  simp [Ptr, I, EV.lit, TO, RdO, TkV, Bs]
  refine callH [48] (tN) (by simp [Ptr, I, EV.lit, TO, RdO, TkV, Bs]) (by simp [Ptr, I, EV.lit, TO, RdO, TkV, Bs]) (by simp) (by simp [Ptr, I, EV.lit, TO, RdO, TkV, Bs]) (by simp [Wok]) ?_
  rintro y H' ⟨rfl, rfl⟩
  refine ⟨.inl (by simp [Ptr, I, EV.lit, TO, RdO, TkV, Bs]), le_ok rfl, ?_⟩
  simp [Ptr, I, EV.lit, TO, RdO, TkV, Bs]
  refine loopW _ (weak_nil (o := 256) (k := 3) (ty := 65) (es := 36) rfl rfl (by omega)) ?_
  refine loopW _ (weak_nil (o := 256) (k := 4) (ty := 66) (es := 3) rfl rfl (by omega)) ?_
  refine eloop (α := Nat) (fun i => i ≤ N.2) (fun i => N.2 - i)
    (fun i => [.any, .any, Ptr 0, .any, Ptr 1, TkV 1, Ptr 3, .any, .any, .any, .any, .any, .any, .any, .any, .any, .any, .any, .any, .any, I .i64 N.2, I .i64 i, .any, .any, .any, .any, .any, .any, .any, .any, .any, .any, .any, .any, .any, .any, .any, .any, .any, .any, .any, .any, .any, .any, .any, .any, .any, .any, .any, .any, .any, .any, .any, .any, .any, .any, .any, .any, .any, .any, .any, .any, .any, .any, .any, .any, .any, .any, .any, .any, .any, .any, .any, .any, .any, .any, .any, .any, .any]) (fun i => [some (.box 33 zC), some (TO 2), some (RdO l (itP l N.1 i).1.1 (itP l N.1 i).1.2), some (.box 33 (gC ⟨A.2, B.2, C.2, [], []⟩ (.row 4 i) (.row 5 0))), some (.row 65 36 (payv (itP l N.1 i).2)), some (.row 66 3 [])]) 0 [0, 64, 48, 256, 336, 337]
    (Nat.zero_le _) (by simp [Ptr, I, TkV]) (by simp [zC, gC, TO, RdO, payv, itP]) (by simp) (by simp) (by simp) ?_
  intro i hi
  have qi := qP i
  obtain ⟨S, hS⟩ : ∃ S, itP l N.1 i = S := ⟨_, rfl⟩
  rw [hS] at qi
  simp [Ptr, I, TkV, TO, RdO, zC, gC, hS]
  refine alt (fun hlt => ?_) (fun hlt => ?_)
  · obtain ⟨a, ha⟩ : ∃ a, tkU l S.1 = a := ⟨_, rfl⟩
    have ta := take_ok l S.1 qi.1 hl'
    have qa := tkU_p qi.1
    rw [ha] at ta qa
    obtain ⟨b, hb⟩ : ∃ b, tkU l a.1 = b := ⟨_, rfl⟩
    have tb := take_ok l a.1 qa.1 hl'
    have qb := tkU_p qa.1
    rw [hb] at tb qb
    obtain ⟨c, hc⟩ : ∃ c, tkU l b.1 = c := ⟨_, rfl⟩
    have tc := take_ok l b.1 qb.1 hl'
    have qc := tkU_p qb.1
    rw [hc] at tc qc
    obtain ⟨d, hd⟩ : ∃ d, tkU l c.1 = d := ⟨_, rfl⟩
    have td := take_ok l c.1 qc.1 hl'
    have qd := tkU_p qc.1
    rw [hd] at td qd
    obtain ⟨e, he⟩ : ∃ e, tkH l d.1 = e := ⟨_, rfl⟩
    have te := RdHash_t l d.1 qd.1 hl'
    have qe := tkH_p qd.1
    rw [he] at te qe
    have e1 : itP l N.1 (i + 1) = (e.1, S.2 ++ [⟨a.2, b.2, c.2, d.2, e.2⟩]) := by simp only [itP, hS, rdPay, ha, hb, hc, hd, he]
    have w2 : IntKind.i64.wrap ((i : Int) + 1) = ((i + 1 : Nat) : Int) := wrap_i64 (by omega) (by omega)
    have ht : e.2.take 32 = e.2 := List.take_of_length_le (by omega)
    simp
    refine ⟨take_body, ?_⟩
    refine callM [1, 2] (ta) (by simp [Ptr, I, EV.lit, TO, RdO, TkV, Bs]) (by simp [Ptr, I, EV.lit, TO, RdO, TkV, Bs]) (by simp) (by simp [Ptr, I, EV.lit, TO, RdO, TkV, Bs]) (fun i hi => by
        rcases (show i = 1 ∨ i = 2 by simpa using hi) with rfl | rfl
        · exact .inr (fun y H' h => by obtain ⟨rfl, rfl⟩ := h; simp [Ptr, I, EV.lit, TO, RdO, TkV, Bs])
        · exact .inl (by simp [Wok])) ?_
    rintro y H' ⟨rfl, rfl⟩
    refine ⟨.inl (by simp [Ptr, I, EV.lit, TO, RdO, TkV, Bs]), le_ok rfl, ?_⟩
    simp [Ptr, I, EV.lit, TO, RdO, TkV, Bs]
    refine ⟨take_body, ?_⟩
    refine callM [1, 2] (tb) (by simp [Ptr, I, EV.lit, TO, RdO, TkV, Bs]) (by simp [Ptr, I, EV.lit, TO, RdO, TkV, Bs]) (by simp) (by simp [Ptr, I, EV.lit, TO, RdO, TkV, Bs]) (fun i hi => by
        rcases (show i = 1 ∨ i = 2 by simpa using hi) with rfl | rfl
        · exact .inr (fun y H' h => by obtain ⟨rfl, rfl⟩ := h; simp [Ptr, I, EV.lit, TO, RdO, TkV, Bs])
        · exact .inl (by simp [Wok])) ?_
    rintro y H' ⟨rfl, rfl⟩
    refine ⟨.inl (by simp [Ptr, I, EV.lit, TO, RdO, TkV, Bs]), le_ok rfl, ?_⟩
    simp [Ptr, I, EV.lit, TO, RdO, TkV, Bs]
    refine ⟨take_body, ?_⟩
    refine callM [1, 2] (tc) (by simp [Ptr, I, EV.lit, TO, RdO, TkV, Bs]) (by simp [Ptr, I, EV.lit, TO, RdO, TkV, Bs]) (by simp) (by simp [Ptr, I, EV.lit, TO, RdO, TkV, Bs]) (fun i hi => by
        rcases (show i = 1 ∨ i = 2 by simpa using hi) with rfl | rfl
        · exact .inr (fun y H' h => by obtain ⟨rfl, rfl⟩ := h; simp [Ptr, I, EV.lit, TO, RdO, TkV, Bs])
        · exact .inl (by simp [Wok])) ?_
    rintro y H' ⟨rfl, rfl⟩
    refine ⟨.inl (by simp [Ptr, I, EV.lit, TO, RdO, TkV, Bs]), le_ok rfl, ?_⟩
    simp [Ptr, I, EV.lit, TO, RdO, TkV, Bs]
    refine ⟨take_body, ?_⟩
    refine callM [1, 2] (td) (by simp [Ptr, I, EV.lit, TO, RdO, TkV, Bs]) (by simp [Ptr, I, EV.lit, TO, RdO, TkV, Bs]) (by simp) (by simp [Ptr, I, EV.lit, TO, RdO, TkV, Bs]) (fun i hi => by
        rcases (show i = 1 ∨ i = 2 by simpa using hi) with rfl | rfl
        · exact .inr (fun y H' h => by obtain ⟨rfl, rfl⟩ := h; simp [Ptr, I, EV.lit, TO, RdO, TkV, Bs])
        · exact .inl (by simp [Wok])) ?_
    rintro y H' ⟨rfl, rfl⟩
    refine ⟨.inl (by simp [Ptr, I, EV.lit, TO, RdO, TkV, Bs]), le_ok rfl, ?_⟩
    simp [Ptr, I, EV.lit, TO, RdO, TkV, Bs]
    refine callH [2] (te) (by simp [Ptr, I, EV.lit, TO, RdO, TkV, Bs]) (by simp [Ptr, I, EV.lit, TO, RdO, TkV, Bs]) (by simp) (by simp [Ptr, I, EV.lit, TO, RdO, TkV, Bs]) (by simp [Wok]) ?_
    rintro y H' ⟨rfl, rfl⟩
    refine ⟨.inl (by simp [Ptr, I, EV.lit, TO, RdO, TkV, Bs]), le_ok rfl, ?_⟩
    have e2 : payv (S.2 ++ [⟨a.2, b.2, c.2, d.2, e.2⟩]) = payv S.2 ++ [payF ⟨a.2, b.2, c.2, d.2, e.2⟩] := by simp [payv]
    have hl32 := qe.2
    have hS2 := qi.2.1
    have hcn : EW.hc ([] : List UInt8) = [] := rfl
    simp [RdO, Ag, hl32, ht, hcn, hS2, w2, -Int.natCast_add]
    refine ⟨by omega, ?_⟩
    exact round (i + 1) [0, 1, 2, 3, 246, 5] (by omega) (by omega) (by simp) (by simp [e1, e2, payF, zC, gC, TO, RdO]) (by simp) (by simp) (by simp)
  have hil : i = N.2 := by omega
  subst hil
  obtain ⟨M, hM⟩ : ∃ M, tkN l 8 S.1 = M := ⟨_, rfl⟩
  have tM := RdCount_t l 8 S.1 qi.1 hl' (by omega)
  have qM := tkN_p (m := 8) qi.1
  rw [hM] at tM qM
  have qH := itH_p qM.1
  have hrs : rdSta l = ((itH l M.1 M.2).1, ⟨A.2, B.2, C.2, S.2, (itH l M.1 M.2).2⟩) := by simp only [rdSta, hA, hB, hC, hN, hS, hM]
  have hS2 := qi.2.1
  simp
  refine callH [2] (tM) (by simp [Ptr, I, EV.lit, TO, RdO, TkV, Bs]) (by simp [Ptr, I, EV.lit, TO, RdO, TkV, Bs]) (by simp) (by simp [Ptr, I, EV.lit, TO, RdO, TkV, Bs]) (by simp [Wok]) ?_
  rintro y H' ⟨rfl, rfl⟩
  refine ⟨.inl (by simp [Ptr, I, EV.lit, TO, RdO, TkV, Bs]), le_ok rfl, ?_⟩
  simp [Ptr, I, EV.lit, TO, RdO, TkV, Bs]
  refine eloop (α := Nat) (fun j => j ≤ M.2) (fun j => M.2 - j)
    (fun j => [.any, .any, Ptr 0, .any, Ptr 1, TkV 1, Ptr 3, .any, .any, .any, .any, .any, .any, .any, .any, .any, .any, .any, .any, .any, .any, .any, .any, .any, .any, .any, .any, .any, .any, .any, .any, .any, .any, .any, .any, .any, .any, .any, .any, .any, .any, I .i64 M.2, I .i64 j, .any, .any, .any, .any, .any, .any, .any, .any, .any, .any, .any, .any, .any, .any, .any, .any, .any, .any, .any, .any, .any, .any, .any, .any, .any, .any, .any, .any, .any, .any, .any, .any, .any, .any, .any, .any]) (fun j => [some (.box 33 zC), some (TO 2), some (RdO l (itH l M.1 j).1.1 (itH l M.1 j).1.2), some (.box 33 (gC ⟨A.2, B.2, C.2, [], []⟩ (.row 4 N.2) (.row 5 j))), some (.row 65 36 (payv S.2)), some (.row 66 3 (holv (itH l M.1 j).2))]) 0 [0, 1, 2, 3, 4, 5]
    (Nat.zero_le _) (by simp [Ptr, I, TkV]) (by simp [zC, gC, TO, RdO, holv, itH]) (by simp) (by simp) (by simp) ?_
  intro j hj
  have qj := qH j
  obtain ⟨Z, hZ⟩ : ∃ Z, itH l M.1 j = Z := ⟨_, rfl⟩
  rw [hZ] at qj
  have hZ2 := qj.2.1
  simp [Ptr, I, TkV, TO, RdO, zC, gC, hZ]
  refine alt (fun hlt => ?_) (fun hlt => ?_)
  · obtain ⟨a, ha⟩ : ∃ a, tkU l Z.1 = a := ⟨_, rfl⟩
    have ta := take_ok l Z.1 qj.1 hl'
    have qa := tkU_p qj.1
    rw [ha] at ta qa
    obtain ⟨b, hb⟩ : ∃ b, tkU l a.1 = b := ⟨_, rfl⟩
    have tb := take_ok l a.1 qa.1 hl'
    have qb := tkU_p qa.1
    rw [hb] at tb qb
    obtain ⟨c, hc⟩ : ∃ c, tkN l 16 b.1 = c := ⟨_, rfl⟩
    have tc := RdCount_t l 16 b.1 qb.1 hl' (by omega)
    have qc := tkN_p (m := 16) qb.1
    rw [hc] at tc qc
    have qK := itK_p qc.1
    have w2 : IntKind.i64.wrap ((j : Int) + 1) = ((j + 1 : Nat) : Int) := wrap_i64 (by omega) (by omega)
    simp
    refine ⟨take_body, ?_⟩
    refine callM [1, 2] (ta) (by simp [Ptr, I, EV.lit, TO, RdO, TkV, Bs]) (by simp [Ptr, I, EV.lit, TO, RdO, TkV, Bs]) (by simp) (by simp [Ptr, I, EV.lit, TO, RdO, TkV, Bs]) (fun i hi => by
        rcases (show i = 1 ∨ i = 2 by simpa using hi) with rfl | rfl
        · exact .inr (fun y H' h => by obtain ⟨rfl, rfl⟩ := h; simp [Ptr, I, EV.lit, TO, RdO, TkV, Bs])
        · exact .inl (by simp [Wok])) ?_
    rintro y H' ⟨rfl, rfl⟩
    refine ⟨.inl (by simp [Ptr, I, EV.lit, TO, RdO, TkV, Bs]), le_ok rfl, ?_⟩
    simp [Ptr, I, EV.lit, TO, RdO, TkV, Bs]
    refine ⟨take_body, ?_⟩
    refine callM [1, 2] (tb) (by simp [Ptr, I, EV.lit, TO, RdO, TkV, Bs]) (by simp [Ptr, I, EV.lit, TO, RdO, TkV, Bs]) (by simp) (by simp [Ptr, I, EV.lit, TO, RdO, TkV, Bs]) (fun i hi => by
        rcases (show i = 1 ∨ i = 2 by simpa using hi) with rfl | rfl
        · exact .inr (fun y H' h => by obtain ⟨rfl, rfl⟩ := h; simp [Ptr, I, EV.lit, TO, RdO, TkV, Bs])
        · exact .inl (by simp [Wok])) ?_
    rintro y H' ⟨rfl, rfl⟩
    refine ⟨.inl (by simp [Ptr, I, EV.lit, TO, RdO, TkV, Bs]), le_ok rfl, ?_⟩
    simp [Ptr, I, EV.lit, TO, RdO, TkV, Bs]
    refine callH [2] (tc) (by simp [Ptr, I, EV.lit, TO, RdO, TkV, Bs]) (by simp [Ptr, I, EV.lit, TO, RdO, TkV, Bs]) (by simp) (by simp [Ptr, I, EV.lit, TO, RdO, TkV, Bs]) (by simp [Wok]) ?_
    rintro y H' ⟨rfl, rfl⟩
    refine ⟨.inl (by simp [Ptr, I, EV.lit, TO, RdO, TkV, Bs]), le_ok rfl, ?_⟩
    simp [Ptr, I, EV.lit, TO, RdO, TkV, Bs]
    refine loopW _ (weak_nil (o := 102) (k := 2) (ty := 3) (es := 1) rfl rfl (by omega)) ?_
    refine eloop (α := Nat) (fun k => k ≤ c.2) (fun k => c.2 - k)
      (fun k => [.any, .any, Ptr 0, .any, Ptr 1, TkV 1, Ptr 3, Ptr 6, .any, .any, .any, .any, .any, .any, .any, .any, .any, .any, .any, .any, .any, .any, .any, .any, .any, .any, .any, .any, .any, .any, .any, .any, .any, .any, .any, .any, .any, .any, .any, .any, .any, I .i64 M.2, I .i64 j, .any, .any, .any, .any, .any, .any, .any, I .i64 c.2, I .i64 k, .any, .any, .any, .any, .any, .any, .any, .any, .any, .any, .any, .any, .any, .any, .any, .any, .any, .any, .any, .any, .any, .any, .any, .any, .any, .any, .any]) (fun k => [some (.box 33 zC), some (TO 2), some (RdO l (itK l c.1 k).1.1 (itK l c.1 k).1.2), some (.box 33 (gC ⟨A.2, B.2, C.2, [], []⟩ (.row 4 N.2) (.row 5 j))), some (.row 65 36 (payv S.2)), some (.row 66 3 (holv Z.2)), some (.box 66 [.fz (.lit (.int .i64 a.2)), .fz (.lit (.int .i64 b.2)), .row 7 k]), some (.row 3 1 (intv (itK l c.1 k).2))]) 0 [0, 1, 2, 3, 4, 5, 102, 182]
      (Nat.zero_le _) (by simp [Ptr, I, TkV]) (by simp [zC, gC, TO, RdO, intv, itK, hZ2]) (by simp) (by simp) (by simp) ?_
    intro k hk
    have qk := qK k
    obtain ⟨Y, hY⟩ : ∃ Y, itK l c.1 k = Y := ⟨_, rfl⟩
    rw [hY] at qk
    have hY2 := qk.2.1
    simp [Ptr, I, TkV, TO, RdO, zC, gC, hY]
    refine alt (fun hlk => ?_) (fun hlk => ?_)
    · obtain ⟨x, hx⟩ : ∃ x, tkU l Y.1 = x := ⟨_, rfl⟩
      have tx := take_ok l Y.1 qk.1 hl'
      rw [hx] at tx
      have e1 : itK l c.1 (k + 1) = (x.1, Y.2 ++ [x.2]) := by simp only [itK, hY, hx]
      have e2 : intv (Y.2 ++ [x.2]) = intv Y.2 ++ [[.lit (.int .i64 x.2)]] := by simp [intv]
      have w3 : IntKind.i64.wrap ((k : Int) + 1) = ((k + 1 : Nat) : Int) := wrap_i64 (by omega) (by omega)
      simp
      refine ⟨take_body, ?_⟩
      refine callM [1, 2] (tx) (by simp [Ptr, I, EV.lit, TO, RdO, TkV, Bs]) (by simp [Ptr, I, EV.lit, TO, RdO, TkV, Bs]) (by simp) (by simp [Ptr, I, EV.lit, TO, RdO, TkV, Bs]) (fun i hi => by
          rcases (show i = 1 ∨ i = 2 by simpa using hi) with rfl | rfl
          · exact .inr (fun y H' h => by obtain ⟨rfl, rfl⟩ := h; simp [Ptr, I, EV.lit, TO, RdO, TkV, Bs])
          · exact .inl (by simp [Wok])) ?_
      rintro y H' ⟨rfl, rfl⟩
      refine ⟨.inl (by simp [Ptr, I, EV.lit, TO, RdO, TkV, Bs]), le_ok rfl, ?_⟩
      simp [RdO, TO, I, w3, hY2, -Int.natCast_add]
      refine ⟨by omega, ?_⟩
      exact round (k + 1) [0, 1, 2, 3, 4, 5, 6, 104] (by omega) (by omega) (by simp) (by simp [e1, e2, zC, gC, TO, RdO, hZ2, hY2]) (by simp) (by simp) (by simp)
    have hkl : k = c.2 := by omega
    subst hkl
    have e1 : itH l M.1 (j + 1) = (Y.1, Z.2 ++ [⟨a.2, b.2, Y.2⟩]) := by simp only [itH, hZ, rdHol, ha, hb, hc, hY]
    have e2 : holv (Z.2 ++ [⟨a.2, b.2, Y.2⟩]) = holv Z.2 ++ [holF ⟨a.2, b.2, Y.2⟩] := by simp [holv]
    simp [w2, hZ2, hY2, -Int.natCast_add]
    refine ⟨⟨by omega, by omega⟩, ?_⟩
    exact round (j + 1) [0, 1, 2, 3, 4, 88] (by omega) (by omega) (by simp) (by simp [e1, e2, holF, zC, gC, TO, RdO, List.take_of_length_le, hY2]) (by simp) (by simp) (by simp)
  have hjl : j = M.2 := by omega
  subst hjl
  rw [hZ] at hrs
  have hdp := rdSta_p l
  rw [hrs] at hdp
  simp
  obtain ⟨E, hE⟩ : ∃ E, (if Z.1.2 ≠ 0 then Z.1.2 else if Z.1.1 < l.length then 3 else 0) = E := ⟨_, rfl⟩
  have td := RdDone_ok l Z.1.1 Z.1.2 qj.1
  rw [hE] at td
  refine callH [2] (td) (by simp [Ptr, I, EV.lit, TO, RdO, TkV, Bs]) (by simp [Ptr, I, EV.lit, TO, RdO, TkV, Bs]) (by simp) (by simp [Ptr, I, EV.lit, TO, RdO, TkV, Bs]) (by simp [Wok]) ?_
  rintro y H' ⟨rfl, rfl⟩
  refine ⟨.inl (by simp [Ptr, I, EV.lit, TO, RdO, TkV, Bs]), le_ok rfl, ?_⟩
  have hsl : (Sta.mk A.2 B.2 C.2 S.2 Z.2).pays.length = N.2 := hS2
  have hsh : (Sta.mk A.2 B.2 C.2 S.2 Z.2).holds.length = M.2 := hZ2
  by_cases hE0 : E = 0
  · subst hE0
    have hg : ¬ (Z.1.2 ≠ 0 ∨ Z.1.1 < l.length) := by
      intro h
      by_cases h1 : Z.1.2 = 0
      · rw [if_neg (by omega), if_pos (by omega)] at hE; omega
      · rw [if_pos h1] at hE; exact h1 hE
    simp [RdO, TO, EV.lit]
    refine call0 (Smay_ok ⟨A.2, B.2, C.2, S.2, Z.2⟩ hdp.2.1) (by simp [SV, staC, hS2, hZ2, List.take_of_length_le]) ?_
    rintro y H' ⟨rfl, rfl⟩
    refine ⟨.inr ⟨rfl, by simp⟩, le_ok rfl, ?_⟩
    by_cases hmay : mayS ⟨A.2, B.2, C.2, S.2, Z.2⟩ = true
    · have hd : decS l = (⟨A.2, B.2, C.2, S.2, Z.2⟩, 0) := by
        simp only [decS, hrs]
        rw [if_neg]
        rintro (h | h | h)
        · exact hg (.inl h)
        · exact hg (.inr h)
        · rw [hmay] at h; cases h
      rw [hd, hmay]
      simp [EV.lit, SE]
      refine finW _ (weak_frz (o := 4) (ty := 65) (es := 36) (xs := payv S.2) rfl) ?_
      refine finW _ (weak_frz (o := 5) (ty := 66) (es := 3) (xs := holv Z.2) rfl) ?_
      exact fin [] (by decide) rfl rfl rfl ⟨rfl, by simp [staC, List.take_of_length_le, hS2, hZ2]⟩
    · have hmay' : mayS ⟨A.2, B.2, C.2, S.2, Z.2⟩ = false := by simpa using hmay
      have hd : decS l = (zSta, 3) := by
        simp only [decS, hrs]
        rw [if_pos (.inr (.inr hmay'))]
      rw [hd, hmay']
      simp [EV.lit, SE, staC, zSta]
      refine finW _ (weak_nlB (o := 0) (k := 3) 36 rfl rfl) (finW _ (weak_nlB (o := 0) (k := 4) 3 rfl rfl) ?_)
      exact fin [] (by decide) rfl rfl rfl ⟨rfl, rfl⟩
  · have hd : decS l = (zSta, 3) := by
      simp only [decS, hrs]
      rw [if_pos]
      by_cases h1 : Z.1.2 = 0
      · by_cases h2 : Z.1.1 < l.length
        · exact .inr (.inl h2)
        · rw [if_neg (by omega), if_neg h2] at hE; exact absurd hE.symm hE0
      · exact .inl h1
    have hv : errV E = .iface 68 (.int .i64 E) := by rw [errV, if_neg hE0]
    rw [hd]
    simp [hv, RdO, TO, EV.lit, SE, staC, zSta]
    refine finW _ (weak_nlB (o := 0) (k := 3) 36 rfl rfl) (finW _ (weak_nlB (o := 0) (k := 4) 3 rfl rfl) ?_)
    exact fin [] (by decide) rfl rfl rfl ⟨rfl, rfl⟩

end Go.Proofs.YtpohjnhlhfbnaaaGreatDoor

namespace Go.Proofs.YtpohjnhlhfbnaaaGreatDoor
open Go Go.EW
set_option linter.unusedSimpArgs false
set_option linter.unusedVariables false

@[simp] def l_Rnum13_1 (_ : Unit) : List EOp := [⟨0, (some 1), none, (.q (.box 70 (.t 0))), []⟩, ⟨1, (some 2), none, (.q (.alloc 70 [(.slice none 0 0), (.int .i64 0)])), []⟩, ⟨2, (some 3), none, (.q (.mov (.k (.int .i64 0)))), []⟩]
@[simp] def b_Rnum13_2 (_ : Unit) : EB := reg0 (hid l_Rnum13_1) 3
@[simp] def l_Rnum13_4 (_ : Unit) : List EOp := [⟨6, (some 4), none, (.q (.mov (.t 9))), []⟩]
@[simp] def l_Rnum13_3 (_ : Unit) : List EOp := ⟨0, (some 6), none, (.q (.lda 2 (.t 1))), []⟩ :: ⟨1, (some 7), none, (.call 54 [(.t 6), (.k (.int .u64 1125899906842624))]), []⟩ :: ⟨2, (some 5), none, (.q (.mov (.t 7))), []⟩ :: ⟨3, (some 8), none, (.q (.ext 0 (.t 5))), []⟩ :: ⟨4, (some 9), none, (.q (.ext 1 (.t 5))), []⟩ :: ⟨5, none, none, (.fz (.sto 2 (.t 1) (.t 8))), []⟩ :: hid l_Rnum13_4
@[simp] def b_Rnum13_5 (_ : Unit) : EB := reg0 (hid l_Rnum13_3) 7
@[simp] def l_Rnum13_6 (_ : Unit) : List EOp := [⟨0, (some 10), none, (.q (.lda 2 (.t 1))), []⟩, ⟨1, (some 11), none, (.q (.mov (.t 4))), []⟩, ⟨2, (some 12), none, (.q (.cnv .i64 (.t 11))), []⟩, ⟨3, none, none, (.fz (.sto 2 (.t 2) (.t 10))), []⟩, ⟨4, (some 3), none, (.q (.mov (.t 12))), []⟩]
@[simp] def b_Rnum13_7 (_ : Unit) : EB := reg0 (hid l_Rnum13_6) 5
@[simp] def b_Rnum13_8 (_ : Unit) : EB := .seq (hid b_Rnum13_7) .ret
@[simp] def b_Rnum13_9 (_ : Unit) : EB := .seq (hid b_Rnum13_5) (hid b_Rnum13_8)
@[simp] def b_Rnum13_10 (_ : Unit) : EB := .seq (hid b_Rnum13_2) (hid b_Rnum13_9)
def c_Rnum13 : EB × List QOp × Nat := ((hid b_Rnum13_10), [(.lda 2 (.t 2)), (.mov (.t 3))], 13)
theorem k_Rnum13 : cfun Tryz.prog 27 = some c_Rnum13 := by kernel_rfl

@[simp] def l_RDecode_1 (_ : Unit) : List EOp := [⟨0, (some 2), none, (.q (.alloc 26 [(.int .i64 0), (.int .i64 0), (.int .i64 0), (.slice none 0 0), (.slice none 0 0)])), []⟩, ⟨1, (some 3), none, (.q (.mov (.k (.int .i64 0)))), []⟩]
@[simp] def b_RDecode_2 (_ : Unit) : EB := reg0 (hid l_RDecode_1) 2
@[simp] def l_RDecode_3 (_ : Unit) : List EOp := [⟨0, (some 14), none, (.q (.build [(.int .i64 0), (.int .i64 0), (.int .i64 0), (.slice none 0 0), (.slice none 0 0)] [])), []⟩, ⟨1, (some 4), none, (.q (.alloc 26 [(.int .i64 0), (.int .i64 0), (.int .i64 0), (.slice none 0 0), (.slice none 0 0)])), []⟩, ⟨2, none, none, (.fz (.sto 5 (.t 4) (.t 14))), []⟩]
@[simp] def b_RDecode_4 (_ : Unit) : EB := reg0 (hid l_RDecode_3) 3
@[simp] def l_RDecode_5 (_ : Unit) : List EOp := [⟨0, (some 15), none, (.q (.mov (.t 0))), []⟩, ⟨1, (some 16), none, (.q (.build [(.slice none 0 0), (.int .i64 0)] [(0, 1, (.t 15))])), []⟩, ⟨2, (some 5), none, (.q (.alloc 70 [(.slice none 0 0), (.int .i64 0)])), []⟩, ⟨3, none, none, (.fz (.sto 2 (.t 5) (.t 16))), []⟩]
@[simp] def b_RDecode_6 (_ : Unit) : EB := reg0 (hid l_RDecode_5) 4
@[simp] def l_RDecode_8 (_ : Unit) : List EOp := [⟨6, (some 22), none, (.q (.fad 0 (.t 4))), []⟩, ⟨7, none, none, (.sto 1 (.t 22) (.t 21)), []⟩]
@[simp] def l_RDecode_7 (_ : Unit) : List EOp := ⟨0, (some 18), none, (.q (.lda 2 (.t 5))), []⟩ :: ⟨1, (some 19), none, (.call 27 [(.t 18)]), []⟩ :: ⟨2, (some 17), none, (.q (.mov (.t 19))), []⟩ :: ⟨3, (some 20), none, (.q (.ext 0 (.t 17))), []⟩ :: ⟨4, (some 21), none, (.q (.ext 1 (.t 17))), []⟩ :: ⟨5, none, none, (.fz (.sto 2 (.t 5) (.t 20))), []⟩ :: hid l_RDecode_8
@[simp] def b_RDecode_9 (_ : Unit) : EB := reg0 (hid l_RDecode_7) 8
@[simp] def l_RDecode_11 (_ : Unit) : List EOp := [⟨6, (some 28), none, (.q (.fad 1 (.t 4))), []⟩, ⟨7, (some 29), none, (.q (.iad 2 1 (.t 28) (.k (.int .i64 0)))), []⟩, ⟨8, none, none, (.sto 1 (.t 29) (.t 27)), []⟩]
@[simp] def l_RDecode_10 (_ : Unit) : List EOp := ⟨0, (some 24), none, (.q (.lda 2 (.t 5))), []⟩ :: ⟨1, (some 25), none, (.call 27 [(.t 24)]), []⟩ :: ⟨2, (some 23), none, (.q (.mov (.t 25))), []⟩ :: ⟨3, (some 26), none, (.q (.ext 0 (.t 23))), []⟩ :: ⟨4, (some 27), none, (.q (.ext 1 (.t 23))), []⟩ :: ⟨5, none, none, (.fz (.sto 2 (.t 5) (.t 26))), []⟩ :: hid l_RDecode_11
@[simp] def b_RDecode_12 (_ : Unit) : EB := reg0 (hid l_RDecode_10) 9
@[simp] def l_RDecode_14 (_ : Unit) : List EOp := [⟨6, (some 35), none, (.q (.fad 1 (.t 4))), []⟩, ⟨7, (some 36), none, (.q (.iad 2 1 (.t 35) (.k (.int .i64 1)))), []⟩, ⟨8, none, none, (.sto 1 (.t 36) (.t 34)), []⟩]
@[simp] def l_RDecode_13 (_ : Unit) : List EOp := ⟨0, (some 31), none, (.q (.lda 2 (.t 5))), []⟩ :: ⟨1, (some 32), none, (.call 27 [(.t 31)]), []⟩ :: ⟨2, (some 30), none, (.q (.mov (.t 32))), []⟩ :: ⟨3, (some 33), none, (.q (.ext 0 (.t 30))), []⟩ :: ⟨4, (some 34), none, (.q (.ext 1 (.t 30))), []⟩ :: ⟨5, none, none, (.fz (.sto 2 (.t 5) (.t 33))), []⟩ :: hid l_RDecode_14
@[simp] def b_RDecode_15 (_ : Unit) : EB := reg0 (hid l_RDecode_13) 9
@[simp] def l_RDecode_17 (_ : Unit) : List EOp := [⟨6, (some 6), none, (.q (.mov (.t 41))), []⟩]
@[simp] def l_RDecode_16 (_ : Unit) : List EOp := ⟨0, (some 38), none, (.q (.lda 2 (.t 5))), []⟩ :: ⟨1, (some 39), none, (.call 28 [(.t 38), (.k (.int .i64 8))]), []⟩ :: ⟨2, (some 37), none, (.q (.mov (.t 39))), []⟩ :: ⟨3, (some 40), none, (.q (.ext 0 (.t 37))), []⟩ :: ⟨4, (some 41), none, (.q (.ext 1 (.t 37))), []⟩ :: ⟨5, none, none, (.fz (.sto 2 (.t 5) (.t 40))), []⟩ :: hid l_RDecode_17
@[simp] def b_RDecode_18 (_ : Unit) : EB := reg0 (hid l_RDecode_16) 7
@[simp] def l_RDecode_19 (_ : Unit) : List EOp := [⟨0, (some 7), none, (.q (.mov (.k (.int .i64 0)))), []⟩]
@[simp] def b_RDecode_20 (_ : Unit) : EB := reg0 (hid l_RDecode_19) 1
@[simp] def l_RDecode_22 (_ : Unit) : List EOp := [⟨6, (some 48), (some (45, true)), (.q (.bin .eql (.t 47) (.k (.int .i64 0)))), []⟩, ⟨7, (some 49), none, (.q (.pick (.t 45) (.t 48) (.k (.bool false)))), []⟩]
@[simp] def l_RDecode_21 (_ : Unit) : List EOp := ⟨0, (some 42), none, (.q (.mov (.t 7))), []⟩ :: ⟨1, (some 43), none, (.q (.mov (.t 6))), []⟩ :: ⟨2, (some 44), none, (.q (.bin .lss (.t 42) (.t 43))), []⟩ :: ⟨3, (some 45), none, (.q (.mov (.t 44))), []⟩ :: ⟨4, (some 46), (some (45, true)), (.q (.fad 1 (.t 5))), []⟩ :: ⟨5, (some 47), (some (45, true)), (.q (.ldc (.t 46))), []⟩ :: hid l_RDecode_22
@[simp] def b_RDecode_23 (_ : Unit) : EB := reg0 (hid l_RDecode_21) 8
@[simp] def b_RDecode_24 (_ : Unit) : EB := .cond (.t 49) .skip (.exit 0)
@[simp] def b_RDecode_25 (_ : Unit) : EB := .seq (hid b_RDecode_23) (hid b_RDecode_24)
@[simp] def l_RDecode_26 (_ : Unit) : List EOp := [⟨0, (some 52), none, (.q (.build (([(.int .i64 0), (.int .i64 0), (.int .i64 0), (.int .i64 0)] : List Value) ++ zU8) [])), []⟩, ⟨1, (some 8), none, (.q (.alloc 74 (([(.int .i64 0), (.int .i64 0), (.int .i64 0), (.int .i64 0)] : List Value) ++ zU8))), []⟩, ⟨2, none, none, (.sto 36 (.t 8) (.t 52)), []⟩]
@[simp] def b_RDecode_27 (_ : Unit) : EB := reg0 (hid l_RDecode_26) 3
@[simp] def l_RDecode_29 (_ : Unit) : List EOp := [⟨6, (some 58), none, (.q (.fad 0 (.t 8))), []⟩, ⟨7, none, none, (.sto 1 (.t 58) (.t 57)), []⟩]
@[simp] def l_RDecode_28 (_ : Unit) : List EOp := ⟨0, (some 54), none, (.q (.lda 2 (.t 5))), []⟩ :: ⟨1, (some 55), none, (.call 27 [(.t 54)]), []⟩ :: ⟨2, (some 53), none, (.q (.mov (.t 55))), []⟩ :: ⟨3, (some 56), none, (.q (.ext 0 (.t 53))), []⟩ :: ⟨4, (some 57), none, (.q (.ext 1 (.t 53))), []⟩ :: ⟨5, none, none, (.fz (.sto 2 (.t 5) (.t 56))), []⟩ :: hid l_RDecode_29
@[simp] def b_RDecode_30 (_ : Unit) : EB := reg0 (hid l_RDecode_28) 8
@[simp] def l_RDecode_32 (_ : Unit) : List EOp := [⟨6, (some 64), none, (.q (.fad 1 (.t 8))), []⟩, ⟨7, none, none, (.sto 1 (.t 64) (.t 63)), []⟩]
@[simp] def l_RDecode_31 (_ : Unit) : List EOp := ⟨0, (some 60), none, (.q (.lda 2 (.t 5))), []⟩ :: ⟨1, (some 61), none, (.call 27 [(.t 60)]), []⟩ :: ⟨2, (some 59), none, (.q (.mov (.t 61))), []⟩ :: ⟨3, (some 62), none, (.q (.ext 0 (.t 59))), []⟩ :: ⟨4, (some 63), none, (.q (.ext 1 (.t 59))), []⟩ :: ⟨5, none, none, (.fz (.sto 2 (.t 5) (.t 62))), []⟩ :: hid l_RDecode_32
@[simp] def b_RDecode_33 (_ : Unit) : EB := reg0 (hid l_RDecode_31) 8
@[simp] def l_RDecode_35 (_ : Unit) : List EOp := [⟨6, (some 70), none, (.q (.fad 2 (.t 8))), []⟩, ⟨7, none, none, (.sto 1 (.t 70) (.t 69)), []⟩]
@[simp] def l_RDecode_34 (_ : Unit) : List EOp := ⟨0, (some 66), none, (.q (.lda 2 (.t 5))), []⟩ :: ⟨1, (some 67), none, (.call 27 [(.t 66)]), []⟩ :: ⟨2, (some 65), none, (.q (.mov (.t 67))), []⟩ :: ⟨3, (some 68), none, (.q (.ext 0 (.t 65))), []⟩ :: ⟨4, (some 69), none, (.q (.ext 1 (.t 65))), []⟩ :: ⟨5, none, none, (.fz (.sto 2 (.t 5) (.t 68))), []⟩ :: hid l_RDecode_35
@[simp] def b_RDecode_36 (_ : Unit) : EB := reg0 (hid l_RDecode_34) 8
@[simp] def l_RDecode_38 (_ : Unit) : List EOp := [⟨6, (some 76), none, (.q (.fad 3 (.t 8))), []⟩, ⟨7, none, none, (.sto 1 (.t 76) (.t 75)), []⟩]
@[simp] def l_RDecode_37 (_ : Unit) : List EOp := ⟨0, (some 72), none, (.q (.lda 2 (.t 5))), []⟩ :: ⟨1, (some 73), none, (.call 27 [(.t 72)]), []⟩ :: ⟨2, (some 71), none, (.q (.mov (.t 73))), []⟩ :: ⟨3, (some 74), none, (.q (.ext 0 (.t 71))), []⟩ :: ⟨4, (some 75), none, (.q (.ext 1 (.t 71))), []⟩ :: ⟨5, none, none, (.fz (.sto 2 (.t 5) (.t 74))), []⟩ :: hid l_RDecode_38
@[simp] def b_RDecode_39 (_ : Unit) : EB := reg0 (hid l_RDecode_37) 8
@[simp] def l_RDecode_41 (_ : Unit) : List EOp := [⟨6, (some 82), none, (.q (.fad 4 (.t 8))), []⟩, ⟨7, none, none, (.sto 32 (.t 82) (.t 81)), []⟩]
@[simp] def l_RDecode_40 (_ : Unit) : List EOp := ⟨0, (some 78), none, (.q (.lda 2 (.t 5))), []⟩ :: ⟨1, (some 79), none, (.call 29 [(.t 78)]), []⟩ :: ⟨2, (some 77), none, (.q (.mov (.t 79))), []⟩ :: ⟨3, (some 80), none, (.q (.ext 0 (.t 77))), []⟩ :: ⟨4, (some 81), none, (.q (.ext 1 (.t 77))), []⟩ :: ⟨5, none, none, (.fz (.sto 2 (.t 5) (.t 80))), []⟩ :: hid l_RDecode_41
@[simp] def b_RDecode_42 (_ : Unit) : EB := reg0 (hid l_RDecode_40) 8
@[simp] def l_RDecode_44 (_ : Unit) : List EOp := [⟨6, none, none, (.fz (.sto 1 (.t 88) (.t 87))), []⟩]
@[simp] def l_RDecode_43 (_ : Unit) : List EOp := ⟨0, (some 83), none, (.q (.fad 3 (.t 4))), []⟩ :: ⟨1, (some 84), none, (.q (.ldc (.t 83))), []⟩ :: ⟨2, (some 85), none, (.q (.lda 36 (.t 8))), []⟩ :: ⟨3, (some 86), none, (.q (.bsl 36 (([(.int .i64 0), (.int .i64 0), (.int .i64 0), (.int .i64 0)] : List Value) ++ zU8) 1 [(0, (.t 85))])), []⟩ :: ⟨4, (some 87), none, (.app 74 36 64 (.t 84) (.t 86)), []⟩ :: ⟨5, (some 88), none, (.q (.fad 3 (.t 4))), []⟩ :: hid l_RDecode_44
@[simp] def b_RDecode_45 (_ : Unit) : EB := reg0 (hid l_RDecode_43) 7
@[simp] def b_RDecode_46 (_ : Unit) : EB := .seq (hid b_RDecode_42) (hid b_RDecode_45)
@[simp] def b_RDecode_47 (_ : Unit) : EB := .seq (hid b_RDecode_39) (hid b_RDecode_46)
@[simp] def b_RDecode_48 (_ : Unit) : EB := .seq (hid b_RDecode_36) (hid b_RDecode_47)
@[simp] def b_RDecode_49 (_ : Unit) : EB := .seq (hid b_RDecode_33) (hid b_RDecode_48)
@[simp] def b_RDecode_50 (_ : Unit) : EB := .seq (hid b_RDecode_30) (hid b_RDecode_49)
@[simp] def b_RDecode_51 (_ : Unit) : EB := .seq (hid b_RDecode_27) (hid b_RDecode_50)
@[simp] def b_RDecode_52 (_ : Unit) : EB := .block 1 (hid b_RDecode_51)
@[simp] def l_RDecode_53 (_ : Unit) : List EOp := [⟨0, (some 50), none, (.q (.mov (.t 7))), []⟩, ⟨1, (some 51), none, (.q (.bin .add (.t 50) (.k (.int .i64 1)))), []⟩, ⟨2, (some 7), none, (.q (.mov (.t 51))), []⟩]
@[simp] def b_RDecode_54 (_ : Unit) : EB := reg0 (hid l_RDecode_53) 3
@[simp] def b_RDecode_55 (_ : Unit) : EB := .seq (hid b_RDecode_52) (hid b_RDecode_54)
@[simp] def b_RDecode_56 (_ : Unit) : EB := .seq (hid b_RDecode_25) (hid b_RDecode_55)
@[simp] def b_RDecode_57 (_ : Unit) : EB := .loop (hid b_RDecode_56)
@[simp] def b_RDecode_58 (_ : Unit) : EB := .block 0 (hid b_RDecode_57)
@[simp] def b_RDecode_59 (_ : Unit) : EB := .seq (hid b_RDecode_20) (hid b_RDecode_58)
@[simp] def l_RDecode_61 (_ : Unit) : List EOp := [⟨6, (some 6), none, (.q (.mov (.t 93))), []⟩]
@[simp] def l_RDecode_60 (_ : Unit) : List EOp := ⟨0, (some 90), none, (.q (.lda 2 (.t 5))), []⟩ :: ⟨1, (some 91), none, (.call 28 [(.t 90), (.k (.int .i64 8))]), []⟩ :: ⟨2, (some 89), none, (.q (.mov (.t 91))), []⟩ :: ⟨3, (some 92), none, (.q (.ext 0 (.t 89))), []⟩ :: ⟨4, (some 93), none, (.q (.ext 1 (.t 89))), []⟩ :: ⟨5, none, none, (.fz (.sto 2 (.t 5) (.t 92))), []⟩ :: hid l_RDecode_61
@[simp] def b_RDecode_62 (_ : Unit) : EB := reg0 (hid l_RDecode_60) 7
@[simp] def l_RDecode_63 (_ : Unit) : List EOp := [⟨0, (some 9), none, (.q (.mov (.k (.int .i64 0)))), []⟩]
@[simp] def b_RDecode_64 (_ : Unit) : EB := reg0 (hid l_RDecode_63) 1
@[simp] def l_RDecode_66 (_ : Unit) : List EOp := [⟨6, (some 100), (some (97, true)), (.q (.bin .eql (.t 99) (.k (.int .i64 0)))), []⟩, ⟨7, (some 101), none, (.q (.pick (.t 97) (.t 100) (.k (.bool false)))), []⟩]
@[simp] def l_RDecode_65 (_ : Unit) : List EOp := ⟨0, (some 94), none, (.q (.mov (.t 9))), []⟩ :: ⟨1, (some 95), none, (.q (.mov (.t 6))), []⟩ :: ⟨2, (some 96), none, (.q (.bin .lss (.t 94) (.t 95))), []⟩ :: ⟨3, (some 97), none, (.q (.mov (.t 96))), []⟩ :: ⟨4, (some 98), (some (97, true)), (.q (.fad 1 (.t 5))), []⟩ :: ⟨5, (some 99), (some (97, true)), (.q (.ldc (.t 98))), []⟩ :: hid l_RDecode_66
@[simp] def b_RDecode_67 (_ : Unit) : EB := reg0 (hid l_RDecode_65) 8
@[simp] def b_RDecode_68 (_ : Unit) : EB := .cond (.t 101) .skip (.exit 2)
@[simp] def b_RDecode_69 (_ : Unit) : EB := .seq (hid b_RDecode_67) (hid b_RDecode_68)
@[simp] def l_RDecode_70 (_ : Unit) : List EOp := [⟨0, (some 104), none, (.q (.build [(.int .i64 0), (.int .i64 0), (.slice none 0 0)] [])), []⟩, ⟨1, (some 10), none, (.q (.alloc 55 [(.int .i64 0), (.int .i64 0), (.slice none 0 0)])), []⟩, ⟨2, none, none, (.fz (.sto 3 (.t 10) (.t 104))), []⟩]
@[simp] def b_RDecode_71 (_ : Unit) : EB := reg0 (hid l_RDecode_70) 3
@[simp] def l_RDecode_72 (_ : Unit) : List EOp := [⟨0, (some 11), none, (.q (.mov (.k (.int .i64 0)))), []⟩]
@[simp] def b_RDecode_73 (_ : Unit) : EB := reg0 (hid l_RDecode_72) 1
@[simp] def l_RDecode_75 (_ : Unit) : List EOp := [⟨6, (some 110), none, (.q (.fad 0 (.t 10))), []⟩, ⟨7, none, none, (.sto 1 (.t 110) (.t 109)), []⟩]
@[simp] def l_RDecode_74 (_ : Unit) : List EOp := ⟨0, (some 106), none, (.q (.lda 2 (.t 5))), []⟩ :: ⟨1, (some 107), none, (.call 27 [(.t 106)]), []⟩ :: ⟨2, (some 105), none, (.q (.mov (.t 107))), []⟩ :: ⟨3, (some 108), none, (.q (.ext 0 (.t 105))), []⟩ :: ⟨4, (some 109), none, (.q (.ext 1 (.t 105))), []⟩ :: ⟨5, none, none, (.fz (.sto 2 (.t 5) (.t 108))), []⟩ :: hid l_RDecode_75
@[simp] def b_RDecode_76 (_ : Unit) : EB := reg0 (hid l_RDecode_74) 8
@[simp] def l_RDecode_78 (_ : Unit) : List EOp := [⟨6, (some 116), none, (.q (.fad 1 (.t 10))), []⟩, ⟨7, none, none, (.sto 1 (.t 116) (.t 115)), []⟩]
@[simp] def l_RDecode_77 (_ : Unit) : List EOp := ⟨0, (some 112), none, (.q (.lda 2 (.t 5))), []⟩ :: ⟨1, (some 113), none, (.call 27 [(.t 112)]), []⟩ :: ⟨2, (some 111), none, (.q (.mov (.t 113))), []⟩ :: ⟨3, (some 114), none, (.q (.ext 0 (.t 111))), []⟩ :: ⟨4, (some 115), none, (.q (.ext 1 (.t 111))), []⟩ :: ⟨5, none, none, (.fz (.sto 2 (.t 5) (.t 114))), []⟩ :: hid l_RDecode_78
@[simp] def b_RDecode_79 (_ : Unit) : EB := reg0 (hid l_RDecode_77) 8
@[simp] def l_RDecode_81 (_ : Unit) : List EOp := [⟨6, (some 11), none, (.q (.mov (.t 121))), []⟩]
@[simp] def l_RDecode_80 (_ : Unit) : List EOp := ⟨0, (some 118), none, (.q (.lda 2 (.t 5))), []⟩ :: ⟨1, (some 119), none, (.call 28 [(.t 118), (.k (.int .i64 16))]), []⟩ :: ⟨2, (some 117), none, (.q (.mov (.t 119))), []⟩ :: ⟨3, (some 120), none, (.q (.ext 0 (.t 117))), []⟩ :: ⟨4, (some 121), none, (.q (.ext 1 (.t 117))), []⟩ :: ⟨5, none, none, (.fz (.sto 2 (.t 5) (.t 120))), []⟩ :: hid l_RDecode_81
@[simp] def b_RDecode_82 (_ : Unit) : EB := reg0 (hid l_RDecode_80) 7
@[simp] def l_RDecode_83 (_ : Unit) : List EOp := [⟨0, (some 12), none, (.q (.mov (.k (.int .i64 0)))), []⟩]
@[simp] def b_RDecode_84 (_ : Unit) : EB := reg0 (hid l_RDecode_83) 1
@[simp] def l_RDecode_86 (_ : Unit) : List EOp := [⟨6, (some 128), (some (125, true)), (.q (.bin .eql (.t 127) (.k (.int .i64 0)))), []⟩, ⟨7, (some 129), none, (.q (.pick (.t 125) (.t 128) (.k (.bool false)))), []⟩]
@[simp] def l_RDecode_85 (_ : Unit) : List EOp := ⟨0, (some 122), none, (.q (.mov (.t 12))), []⟩ :: ⟨1, (some 123), none, (.q (.mov (.t 11))), []⟩ :: ⟨2, (some 124), none, (.q (.bin .lss (.t 122) (.t 123))), []⟩ :: ⟨3, (some 125), none, (.q (.mov (.t 124))), []⟩ :: ⟨4, (some 126), (some (125, true)), (.q (.fad 1 (.t 5))), []⟩ :: ⟨5, (some 127), (some (125, true)), (.q (.ldc (.t 126))), []⟩ :: hid l_RDecode_86
@[simp] def b_RDecode_87 (_ : Unit) : EB := reg0 (hid l_RDecode_85) 8
@[simp] def b_RDecode_88 (_ : Unit) : EB := .cond (.t 129) .skip (.exit 4)
@[simp] def b_RDecode_89 (_ : Unit) : EB := .seq (hid b_RDecode_87) (hid b_RDecode_88)
@[simp] def l_RDecode_90 (_ : Unit) : List EOp := [⟨0, (some 13), none, (.q (.mov (.k (.int .i64 0)))), []⟩]
@[simp] def b_RDecode_91 (_ : Unit) : EB := reg0 (hid l_RDecode_90) 1
@[simp] def l_RDecode_93 (_ : Unit) : List EOp := [⟨6, (some 13), none, (.q (.mov (.t 136))), []⟩]
@[simp] def l_RDecode_92 (_ : Unit) : List EOp := ⟨0, (some 133), none, (.q (.lda 2 (.t 5))), []⟩ :: ⟨1, (some 134), none, (.call 27 [(.t 133)]), []⟩ :: ⟨2, (some 132), none, (.q (.mov (.t 134))), []⟩ :: ⟨3, (some 135), none, (.q (.ext 0 (.t 132))), []⟩ :: ⟨4, (some 136), none, (.q (.ext 1 (.t 132))), []⟩ :: ⟨5, none, none, (.fz (.sto 2 (.t 5) (.t 135))), []⟩ :: hid l_RDecode_93
@[simp] def b_RDecode_94 (_ : Unit) : EB := reg0 (hid l_RDecode_92) 7
@[simp] def l_RDecode_96 (_ : Unit) : List EOp := [⟨6, none, none, (.fz (.sto 1 (.t 142) (.t 141))), []⟩]
@[simp] def l_RDecode_95 (_ : Unit) : List EOp := ⟨0, (some 137), none, (.q (.fad 2 (.t 10))), []⟩ :: ⟨1, (some 138), none, (.q (.ldc (.t 137))), []⟩ :: ⟨2, (some 139), none, (.q (.mov (.t 13))), []⟩ :: ⟨3, (some 140), none, (.q (.bsl 1 [(.int .i64 0)] 1 [(0, (.t 139))])), []⟩ :: ⟨4, (some 141), none, (.app 3 1 8 (.t 138) (.t 140)), []⟩ :: ⟨5, (some 142), none, (.q (.fad 2 (.t 10))), []⟩ :: hid l_RDecode_96
@[simp] def b_RDecode_97 (_ : Unit) : EB := reg0 (hid l_RDecode_95) 7
@[simp] def b_RDecode_98 (_ : Unit) : EB := .seq (hid b_RDecode_94) (hid b_RDecode_97)
@[simp] def b_RDecode_99 (_ : Unit) : EB := .seq (hid b_RDecode_91) (hid b_RDecode_98)
@[simp] def b_RDecode_100 (_ : Unit) : EB := .block 5 (hid b_RDecode_99)
@[simp] def l_RDecode_101 (_ : Unit) : List EOp := [⟨0, (some 130), none, (.q (.mov (.t 12))), []⟩, ⟨1, (some 131), none, (.q (.bin .add (.t 130) (.k (.int .i64 1)))), []⟩, ⟨2, (some 12), none, (.q (.mov (.t 131))), []⟩]
@[simp] def b_RDecode_102 (_ : Unit) : EB := reg0 (hid l_RDecode_101) 3
@[simp] def b_RDecode_103 (_ : Unit) : EB := .seq (hid b_RDecode_100) (hid b_RDecode_102)
@[simp] def b_RDecode_104 (_ : Unit) : EB := .seq (hid b_RDecode_89) (hid b_RDecode_103)
@[simp] def b_RDecode_105 (_ : Unit) : EB := .loop (hid b_RDecode_104)
@[simp] def b_RDecode_106 (_ : Unit) : EB := .block 4 (hid b_RDecode_105)
@[simp] def b_RDecode_107 (_ : Unit) : EB := .seq (hid b_RDecode_84) (hid b_RDecode_106)
@[simp] def l_RDecode_109 (_ : Unit) : List EOp := [⟨6, none, none, (.fz (.sto 1 (.t 148) (.t 147))), []⟩]
@[simp] def l_RDecode_108 (_ : Unit) : List EOp := ⟨0, (some 143), none, (.q (.fad 4 (.t 4))), []⟩ :: ⟨1, (some 144), none, (.q (.ldc (.t 143))), []⟩ :: ⟨2, (some 145), none, (.q (.lda 3 (.t 10))), []⟩ :: ⟨3, (some 146), none, (.fz (.q (.bsl 3 [(.int .i64 0), (.int .i64 0), (.slice none 0 0)] 1 [(0, (.t 145))]))), []⟩ :: ⟨4, (some 147), none, (.app 55 3 40 (.t 144) (.t 146)), []⟩ :: ⟨5, (some 148), none, (.q (.fad 4 (.t 4))), []⟩ :: hid l_RDecode_109
@[simp] def b_RDecode_110 (_ : Unit) : EB := reg0 (hid l_RDecode_108) 7
@[simp] def b_RDecode_111 (_ : Unit) : EB := .seq (hid b_RDecode_107) (hid b_RDecode_110)
@[simp] def b_RDecode_112 (_ : Unit) : EB := .seq (hid b_RDecode_82) (hid b_RDecode_111)
@[simp] def b_RDecode_113 (_ : Unit) : EB := .seq (hid b_RDecode_79) (hid b_RDecode_112)
@[simp] def b_RDecode_114 (_ : Unit) : EB := .seq (hid b_RDecode_76) (hid b_RDecode_113)
@[simp] def b_RDecode_115 (_ : Unit) : EB := .seq (hid b_RDecode_73) (hid b_RDecode_114)
@[simp] def b_RDecode_116 (_ : Unit) : EB := .seq (hid b_RDecode_71) (hid b_RDecode_115)
@[simp] def b_RDecode_117 (_ : Unit) : EB := .block 3 (hid b_RDecode_116)
@[simp] def l_RDecode_118 (_ : Unit) : List EOp := [⟨0, (some 102), none, (.q (.mov (.t 9))), []⟩, ⟨1, (some 103), none, (.q (.bin .add (.t 102) (.k (.int .i64 1)))), []⟩, ⟨2, (some 9), none, (.q (.mov (.t 103))), []⟩]
@[simp] def b_RDecode_119 (_ : Unit) : EB := reg0 (hid l_RDecode_118) 3
@[simp] def b_RDecode_120 (_ : Unit) : EB := .seq (hid b_RDecode_117) (hid b_RDecode_119)
@[simp] def b_RDecode_121 (_ : Unit) : EB := .seq (hid b_RDecode_69) (hid b_RDecode_120)
@[simp] def b_RDecode_122 (_ : Unit) : EB := .loop (hid b_RDecode_121)
@[simp] def b_RDecode_123 (_ : Unit) : EB := .block 2 (hid b_RDecode_122)
@[simp] def b_RDecode_124 (_ : Unit) : EB := .seq (hid b_RDecode_64) (hid b_RDecode_123)
@[simp] def l_RDecode_126 (_ : Unit) : List EOp := [⟨6, (some 155), (some (152, false)), (.q (.bin .neq (.t 154) (.k (.int .i64 0)))), []⟩, ⟨7, (some 156), none, (.q (.pick (.t 152) (.k (.bool true)) (.t 155))), []⟩]
@[simp] def l_RDecode_125 (_ : Unit) : List EOp := ⟨0, (some 149), none, (.q (.lda 2 (.t 5))), []⟩ :: ⟨1, (some 150), none, (.call 30 [(.t 149)]), []⟩ :: ⟨2, (some 151), none, (.q (.bin .neq (.t 150) (.k (.int .i64 0)))), []⟩ :: ⟨3, (some 152), none, (.q (.mov (.t 151))), []⟩ :: ⟨4, (some 153), (some (152, false)), (.q (.lda 5 (.t 4))), []⟩ :: ⟨5, (some 154), (some (152, false)), (.call 11 [(.t 153)]), []⟩ :: hid l_RDecode_126
@[simp] def b_RDecode_127 (_ : Unit) : EB := reg0 (hid l_RDecode_125) 8
@[simp] def l_RDecode_128 (_ : Unit) : List EOp := [⟨0, (some 157), none, (.q (.build [(.int .i64 0), (.int .i64 0), (.int .i64 0), (.slice none 0 0), (.slice none 0 0)] [])), []⟩, ⟨1, none, none, (.fz (.sto 5 (.t 2) (.t 157))), []⟩, ⟨2, (some 3), none, (.q (.mov (.k (.int .i64 3)))), []⟩]
@[simp] def b_RDecode_129 (_ : Unit) : EB := reg0 (hid l_RDecode_128) 3
@[simp] def b_RDecode_130 (_ : Unit) : EB := .seq (hid b_RDecode_129) .ret
@[simp] def b_RDecode_131 (_ : Unit) : EB := .cond (.t 156) (hid b_RDecode_130) .skip
@[simp] def b_RDecode_132 (_ : Unit) : EB := .seq (hid b_RDecode_127) (hid b_RDecode_131)
@[simp] def l_RDecode_133 (_ : Unit) : List EOp := [⟨0, (some 158), none, (.q (.lda 5 (.t 4))), []⟩, ⟨1, none, none, (.fz (.sto 5 (.t 2) (.t 158))), []⟩, ⟨2, (some 3), none, (.q (.mov (.k (.int .i64 0)))), []⟩]
@[simp] def b_RDecode_134 (_ : Unit) : EB := reg0 (hid l_RDecode_133) 3
@[simp] def b_RDecode_135 (_ : Unit) : EB := .seq (hid b_RDecode_134) .ret
@[simp] def b_RDecode_136 (_ : Unit) : EB := .seq (hid b_RDecode_132) (hid b_RDecode_135)
@[simp] def b_RDecode_137 (_ : Unit) : EB := .seq (hid b_RDecode_124) (hid b_RDecode_136)
@[simp] def b_RDecode_138 (_ : Unit) : EB := .seq (hid b_RDecode_62) (hid b_RDecode_137)
@[simp] def b_RDecode_139 (_ : Unit) : EB := .seq (hid b_RDecode_59) (hid b_RDecode_138)
@[simp] def b_RDecode_140 (_ : Unit) : EB := .seq (hid b_RDecode_18) (hid b_RDecode_139)
@[simp] def b_RDecode_141 (_ : Unit) : EB := .seq (hid b_RDecode_15) (hid b_RDecode_140)
@[simp] def b_RDecode_142 (_ : Unit) : EB := .seq (hid b_RDecode_12) (hid b_RDecode_141)
@[simp] def b_RDecode_143 (_ : Unit) : EB := .seq (hid b_RDecode_9) (hid b_RDecode_142)
@[simp] def b_RDecode_144 (_ : Unit) : EB := .seq (hid b_RDecode_6) (hid b_RDecode_143)
@[simp] def b_RDecode_145 (_ : Unit) : EB := .seq (hid b_RDecode_4) (hid b_RDecode_144)
@[simp] def b_RDecode_146 (_ : Unit) : EB := .seq (hid b_RDecode_2) (hid b_RDecode_145)
def c_RDecode : EB × List QOp × Nat := ((hid b_RDecode_146), [(.lda 5 (.t 2)), (.mov (.t 3))], 159)
theorem k_RDecode : cfun Tryz.prog 7 = some c_RDecode := by kernel_rfl


theorem Rnum13_ok (l : List UInt8) (σ : Rs) (hp : σ.1 ≤ l.length) (hl : l.length ≤ 1000000000) :
    ECalls Tryz.prog 27 [RV (l.drop σ.1) σ.2] [] fun y H' => H' = [] ∧ y = .tup [.agg (rvC (l.drop (tkU l σ).1.1) (tkU l σ).1.2), .c (.fz (.lit (.int .i64 (tkU l σ).2)))] := by
  have h0 := tkU_p hp
  have w0 : IntKind.i64.wrap ((uS (l.drop σ.1) σ.2 1125899906842624).2.1 : Int) = (tkU l σ).2 := by
    rw [show ((uS (l.drop σ.1) σ.2 1125899906842624).2.1 : Int) = (tkU l σ).2 from rfl, wrap_i64 (by omega) (by omega)]
  have e1 : (l.drop σ.1).drop (uS (l.drop σ.1) σ.2 1125899906842624).2.2 = l.drop (tkU l σ).1.1 := by rw [List.drop_drop]; rfl
  have e2 : (uS (l.drop σ.1) σ.2 1125899906842624).1 = (tkU l σ).1.2 := rfl
  have h := RReadUint_all (l.drop σ.1) σ.2 1125899906842624 (by simp; omega)
  rw [e1, e2] at h
  refine ecalls k_Rnum13 ?_
  simp [c_Rnum13, RV]
  refine call0 (h) (by simp [Ptr, I, EV.lit, RV, rvC]) ?_
  rintro y H' ⟨rfl, rfl⟩
  refine ⟨.inl (by simp [Ptr, I, EV.lit, RV, rvC]), le_ok rfl, ?_⟩
  simp [rvC, w0]
  exact fin [] (by decide) rfl rfl rfl ⟨rfl, rfl⟩

theorem RReadCount_t (l : List UInt8) (m : Int) (σ : Rs) (hp : σ.1 ≤ l.length) (hl : l.length ≤ 1000000000) (hm : -9223372036854775808 ≤ m ∧ m ≤ 9223372036854775807) :
    ECalls Tryz.prog 28 [RV (l.drop σ.1) σ.2, I .i64 m] [] fun y H' => H' = [] ∧ y = .tup [.agg (rvC (l.drop (tkN l m σ).1.1) (tkN l m σ).1.2), .c (.fz (.lit (.int .i64 (tkN l m σ).2)))] := by
  have e1 : (l.drop σ.1).drop (nS (l.drop σ.1) σ.2 m).2.2 = l.drop (tkN l m σ).1.1 := by rw [List.drop_drop]; rfl
  have h := RReadCount_all (l.drop σ.1) σ.2 m (by simp; omega) hm
  rw [e1] at h
  exact h

theorem RReadHash_t (l : List UInt8) (σ : Rs) (hp : σ.1 ≤ l.length) (hl : l.length ≤ 1000000000) :
    ECalls Tryz.prog 29 [RV (l.drop σ.1) σ.2] [] fun y H' => H' = [] ∧ y = .tup [.agg (rvC (l.drop (tkH l σ).1.1) (tkH l σ).1.2), .agg (hc (tkH l σ).2)] := by
  have e1 : (l.drop σ.1).drop (aS (l.drop σ.1) σ.2).2.2 = l.drop (tkH l σ).1.1 := by rw [List.drop_drop]; rfl
  have h := RReadHash_all (l.drop σ.1) σ.2 (by simp; omega)
  rw [e1] at h
  exact h

def RdB (l : List UInt8) (σ : Rs) : EO := .box 70 (rvC (l.drop σ.1) σ.2)
def RSO (s : Sta) (a b : EC) : EO := .box 26 (gC s a b)

set_option maxRecDepth 8000 in
set_option maxHeartbeats 8000000 in
theorem RDecode_ok (l : List UInt8) (hl : l.length ≤ 100000000) : ECalls Tryz.prog 7 [Bs l] [] fun y H' => H' = [] ∧ y = RE (decS l) := by
  have hl' : l.length ≤ 1000000000 := by omega
  obtain ⟨A, hA⟩ : ∃ A, tkU l (0, 0) = A := ⟨_, rfl⟩
  have tA := Rnum13_ok l (0, 0) (by simp) hl'
  have qA := tkU_p (l := l) (σ := (0, 0)) (by simp)
  rw [hA] at tA qA
  simp only [List.drop_zero] at tA
  obtain ⟨B, hB⟩ : ∃ B, tkU l A.1 = B := ⟨_, rfl⟩
  have tB := Rnum13_ok l A.1 qA.1 hl'
  have qB := tkU_p qA.1
  rw [hB] at tB qB
  obtain ⟨C, hC⟩ : ∃ C, tkU l B.1 = C := ⟨_, rfl⟩
  have tC := Rnum13_ok l B.1 qB.1 hl'
  have qC := tkU_p qB.1
  rw [hC] at tC qC
  obtain ⟨N, hN⟩ : ∃ N, tkN l 8 C.1 = N := ⟨_, rfl⟩
  have tN := RReadCount_t l 8 C.1 qC.1 hl' (by omega)
  have qN := tkN_p (m := 8) qC.1
  rw [hN] at tN qN
  have qP := itP_p qN.1
  refine ecalls k_RDecode ?_
  simp [c_RDecode, Bs]
  refine call0 (tA) (by simp [Ptr, I, EV.lit, RV, rvC]) ?_
  rintro y H' ⟨rfl, rfl⟩
  refine ⟨.inl (by simp [Ptr, I, EV.lit, RV, rvC]), le_ok rfl, ?_⟩
  simp [Ptr, I, EV.lit, RV, rvC]
  refine call0 (tB) (by simp [Ptr, I, EV.lit, RV, rvC]) ?_
  rintro y H' ⟨rfl, rfl⟩
  refine ⟨.inl (by simp [Ptr, I, EV.lit, RV, rvC]), le_ok rfl, ?_⟩
  simp [Ptr, I, EV.lit, RV, rvC]
  refine call0 (tC) (by simp [Ptr, I, EV.lit, RV, rvC]) ?_
  rintro y H' ⟨rfl, rfl⟩
  refine ⟨.inl (by simp [Ptr, I, EV.lit, RV, rvC]), le_ok rfl, ?_⟩
  simp [Ptr, I, EV.lit, RV, rvC]
  refine call0 (tN) (by simp [Ptr, I, EV.lit, RV, rvC]) ?_
  rintro y H' ⟨rfl, rfl⟩
  refine ⟨.inl (by simp [Ptr, I, EV.lit, RV, rvC]), le_ok rfl, ?_⟩
  simp [Ptr, I, EV.lit, RV, rvC]
  refine loopW _ (weak_nil (o := 48) (k := 3) (ty := 74) (es := 36) rfl rfl (by omega)) ?_
  refine loopW _ (weak_nil (o := 48) (k := 4) (ty := 55) (es := 3) rfl rfl (by omega)) ?_
  refine eloop (α := Nat) (fun i => i ≤ N.2) (fun i => N.2 - i)
    (fun i => [.any, .any, Ptr 0, .any, Ptr 1, Ptr 2, I .i64 N.2, I .i64 i, .any, .any, .any, .any, .any, .any, .any, .any, .any, .any, .any, .any, .any, .any, .any, .any, .any, .any, .any, .any, .any, .any, .any, .any, .any, .any, .any, .any, .any, .any, .any, .any, .any, .any, .any, .any, .any, .any, .any, .any, .any, .any, .any, .any, .any, .any, .any, .any, .any, .any, .any, .any, .any, .any, .any, .any, .any, .any, .any, .any, .any, .any, .any, .any, .any, .any, .any, .any, .any, .any, .any, .any, .any, .any, .any, .any, .any, .any, .any, .any, .any, .any, .any, .any, .any, .any, .any, .any, .any, .any, .any, .any, .any, .any, .any, .any, .any, .any, .any, .any, .any, .any, .any, .any, .any, .any, .any, .any, .any, .any, .any, .any, .any, .any, .any, .any, .any, .any, .any, .any, .any, .any, .any, .any, .any, .any, .any, .any, .any, .any, .any, .any, .any, .any, .any, .any, .any, .any, .any, .any, .any, .any, .any, .any, .any, .any, .any, .any, .any, .any, .any]) (fun i => [some (.box 26 zC), some (RSO ⟨A.2, B.2, C.2, [], []⟩ (.row 3 i) (.row 4 0)), some (RdB l (itP l N.1 i).1), some (.row 74 36 (payv (itP l N.1 i).2)), some (.row 55 3 [])]) 0 [0, 48, 112, 688, 689]
    (Nat.zero_le _) (by simp [Ptr, I]) (by simp [zC, gC, RSO, RdB, rvC, payv, itP]) (by simp) (by simp) (by simp) ?_
  intro i hi
  have qi := qP i
  obtain ⟨S, hS⟩ : ∃ S, itP l N.1 i = S := ⟨_, rfl⟩
  rw [hS] at qi
  have hS2 := qi.2.1
  simp [Ptr, I, RSO, RdB, rvC, zC, gC, hS]
  by_cases heb : S.1.2 = 0
  rotate_left
  · by_cases hlt : i < N.2
    · simp [hlt, heb]
      have hM : tkN l 8 S.1 = (S.1, 0) := tkN_e heb
      have tM := RReadCount_t l 8 S.1 qi.1 hl' (by omega)
      rw [hM] at tM
      have hbad : (rdSta l).1.2 ≠ 0 := by
        have h1 := itP_stay (l := l) (σ := N.1) (i := i) (by rw [hS]; exact heb) (N.2 - i)
        rw [show i + (N.2 - i) = N.2 by omega, hS] at h1
        simp only [rdSta, hA, hB, hC, hN, h1, hM, itH]
        exact heb
      have hd : decS l = (zSta, 3) := by simp only [decS]; rw [if_pos (.inl hbad)]
      rw [hd]
      refine call0 (tM) (by simp [Ptr, I, EV.lit, RV, rvC]) ?_
      rintro y H' ⟨rfl, rfl⟩
      refine ⟨.inl (by simp [Ptr, I, EV.lit, RV, rvC]), le_ok rfl, ?_⟩
      simp [Ptr, I, EV.lit, RV, rvC]
      refine eloop (α := Unit) (fun _ => True) (fun _ => 0)
        (fun _ => [.any, .any, Ptr 0, .any, Ptr 1, Ptr 2, I .i64 0, .any, .any, I .i64 0, .any, .any, .any, .any, .any, .any, .any, .any, .any, .any, .any, .any, .any, .any, .any, .any, .any, .any, .any, .any, .any, .any, .any, .any, .any, .any, .any, .any, .any, .any, .any, .any, .any, .any, .any, .any, .any, .any, .any, .any, .any, .any, .any, .any, .any, .any, .any, .any, .any, .any, .any, .any, .any, .any, .any, .any, .any, .any, .any, .any, .any, .any, .any, .any, .any, .any, .any, .any, .any, .any, .any, .any, .any, .any, .any, .any, .any, .any, .any, .any, .any, .any, .any, .any, .any, .any, .any, .any, .any, .any, .any, .any, .any, .any, .any, .any, .any, .any, .any, .any, .any, .any, .any, .any, .any, .any, .any, .any, .any, .any, .any, .any, .any, .any, .any, .any, .any, .any, .any, .any, .any, .any, .any, .any, .any, .any, .any, .any, .any, .any, .any, .any, .any, .any, .any, .any, .any, .any, .any, .any, .any, .any, .any, .any, .any, .any, .any, .any, .any]) (fun _ => [some (.box 26 zC), some (RSO ⟨A.2, B.2, C.2, [], []⟩ (.row 3 i) (.row 4 0)), some (RdB l S.1), some (.row 74 36 (payv S.2)), some (.row 55 3 [])]) () [0, 1, 2, 3, 4]
        trivial (by simp [Ptr, I]) (by simp [zC, gC, RSO, RdB, rvC]) (by simp) (by simp) (by simp) ?_
      intro _ _
      simp [Ptr, I, RSO, RdB, rvC, zC, gC]
      refine call0 (RDone_ok (l.drop S.1.1) S.1.2) (by simp [Ptr, I, EV.lit, RV, rvC]) ?_
      rintro y H' ⟨rfl, rfl⟩
      refine ⟨.inl (by simp [Ptr, I, EV.lit, RV, rvC]), le_ok rfl, ?_⟩
      simp [I, heb, SE, RE, staC, zSta]
      refine finW _ (weak_nlB (o := 0) (k := 3) 36 rfl rfl) (finW _ (weak_nlB (o := 0) (k := 4) 3 rfl rfl) ?_)
      exact fin [] (by decide) rfl rfl rfl ⟨rfl, rfl⟩
    · simp [hlt]
      have hM : tkN l 8 S.1 = (S.1, 0) := tkN_e heb
      have tM := RReadCount_t l 8 S.1 qi.1 hl' (by omega)
      rw [hM] at tM
      have hbad : (rdSta l).1.2 ≠ 0 := by
        have h1 := itP_stay (l := l) (σ := N.1) (i := i) (by rw [hS]; exact heb) (N.2 - i)
        rw [show i + (N.2 - i) = N.2 by omega, hS] at h1
        simp only [rdSta, hA, hB, hC, hN, h1, hM, itH]
        exact heb
      have hd : decS l = (zSta, 3) := by simp only [decS]; rw [if_pos (.inl hbad)]
      rw [hd]
      refine call0 (tM) (by simp [Ptr, I, EV.lit, RV, rvC]) ?_
      rintro y H' ⟨rfl, rfl⟩
      refine ⟨.inl (by simp [Ptr, I, EV.lit, RV, rvC]), le_ok rfl, ?_⟩
      simp [Ptr, I, EV.lit, RV, rvC]
      refine eloop (α := Unit) (fun _ => True) (fun _ => 0)
        (fun _ => [.any, .any, Ptr 0, .any, Ptr 1, Ptr 2, I .i64 0, .any, .any, I .i64 0, .any, .any, .any, .any, .any, .any, .any, .any, .any, .any, .any, .any, .any, .any, .any, .any, .any, .any, .any, .any, .any, .any, .any, .any, .any, .any, .any, .any, .any, .any, .any, .any, .any, .any, .any, .any, .any, .any, .any, .any, .any, .any, .any, .any, .any, .any, .any, .any, .any, .any, .any, .any, .any, .any, .any, .any, .any, .any, .any, .any, .any, .any, .any, .any, .any, .any, .any, .any, .any, .any, .any, .any, .any, .any, .any, .any, .any, .any, .any, .any, .any, .any, .any, .any, .any, .any, .any, .any, .any, .any, .any, .any, .any, .any, .any, .any, .any, .any, .any, .any, .any, .any, .any, .any, .any, .any, .any, .any, .any, .any, .any, .any, .any, .any, .any, .any, .any, .any, .any, .any, .any, .any, .any, .any, .any, .any, .any, .any, .any, .any, .any, .any, .any, .any, .any, .any, .any, .any, .any, .any, .any, .any, .any, .any, .any, .any, .any, .any, .any]) (fun _ => [some (.box 26 zC), some (RSO ⟨A.2, B.2, C.2, [], []⟩ (.row 3 i) (.row 4 0)), some (RdB l S.1), some (.row 74 36 (payv S.2)), some (.row 55 3 [])]) () [0, 1, 2, 3, 4]
        trivial (by simp [Ptr, I]) (by simp [zC, gC, RSO, RdB, rvC]) (by simp) (by simp) (by simp) ?_
      intro _ _
      simp [Ptr, I, RSO, RdB, rvC, zC, gC]
      refine call0 (RDone_ok (l.drop S.1.1) S.1.2) (by simp [Ptr, I, EV.lit, RV, rvC]) ?_
      rintro y H' ⟨rfl, rfl⟩
      refine ⟨.inl (by simp [Ptr, I, EV.lit, RV, rvC]), le_ok rfl, ?_⟩
      simp [I, heb, SE, RE, staC, zSta]
      refine finW _ (weak_nlB (o := 0) (k := 3) 36 rfl rfl) (finW _ (weak_nlB (o := 0) (k := 4) 3 rfl rfl) ?_)
      exact fin [] (by decide) rfl rfl rfl ⟨rfl, rfl⟩
  by_cases hlt : i < N.2
  · obtain ⟨a, ha⟩ : ∃ a, tkU l S.1 = a := ⟨_, rfl⟩
    have ta := Rnum13_ok l S.1 qi.1 hl'
    have qa := tkU_p qi.1
    rw [ha, heb] at ta
    rw [ha] at qa
    obtain ⟨b, hb⟩ : ∃ b, tkU l a.1 = b := ⟨_, rfl⟩
    have tb := Rnum13_ok l a.1 qa.1 hl'
    have qb := tkU_p qa.1
    rw [hb] at tb qb
    obtain ⟨c, hc⟩ : ∃ c, tkU l b.1 = c := ⟨_, rfl⟩
    have tc := Rnum13_ok l b.1 qb.1 hl'
    have qc := tkU_p qb.1
    rw [hc] at tc qc
    obtain ⟨d, hd⟩ : ∃ d, tkU l c.1 = d := ⟨_, rfl⟩
    have td := Rnum13_ok l c.1 qc.1 hl'
    have qd := tkU_p qc.1
    rw [hd] at td qd
    obtain ⟨e, he⟩ : ∃ e, tkH l d.1 = e := ⟨_, rfl⟩
    have te := RReadHash_t l d.1 qd.1 hl'
    have qe := tkH_p qd.1
    rw [he] at te qe
    have e1 : itP l N.1 (i + 1) = (e.1, S.2 ++ [⟨a.2, b.2, c.2, d.2, e.2⟩]) := by simp only [itP, hS, rdPay, ha, hb, hc, hd, he]
    have w2 : IntKind.i64.wrap ((i : Int) + 1) = ((i + 1 : Nat) : Int) := wrap_i64 (by omega) (by omega)
    have ht : e.2.take 32 = e.2 := List.take_of_length_le (by omega)
    have e2 : payv (S.2 ++ [⟨a.2, b.2, c.2, d.2, e.2⟩]) = payv S.2 ++ [payF ⟨a.2, b.2, c.2, d.2, e.2⟩] := by simp [payv]
    have hl32 := qe.2
    have hcn : EW.hc ([] : List UInt8) = [] := rfl
    simp [hlt, heb]
    refine call0 (ta) (by simp [Ptr, I, EV.lit, RV, rvC]) ?_
    rintro y H' ⟨rfl, rfl⟩
    refine ⟨.inl (by simp [Ptr, I, EV.lit, RV, rvC]), le_ok rfl, ?_⟩
    simp [Ptr, I, EV.lit, RV, rvC]
    refine call0 (tb) (by simp [Ptr, I, EV.lit, RV, rvC]) ?_
    rintro y H' ⟨rfl, rfl⟩
    refine ⟨.inl (by simp [Ptr, I, EV.lit, RV, rvC]), le_ok rfl, ?_⟩
    simp [Ptr, I, EV.lit, RV, rvC]
    refine call0 (tc) (by simp [Ptr, I, EV.lit, RV, rvC]) ?_
    rintro y H' ⟨rfl, rfl⟩
    refine ⟨.inl (by simp [Ptr, I, EV.lit, RV, rvC]), le_ok rfl, ?_⟩
    simp [Ptr, I, EV.lit, RV, rvC]
    refine call0 (td) (by simp [Ptr, I, EV.lit, RV, rvC]) ?_
    rintro y H' ⟨rfl, rfl⟩
    refine ⟨.inl (by simp [Ptr, I, EV.lit, RV, rvC]), le_ok rfl, ?_⟩
    simp [Ptr, I, EV.lit, RV, rvC]
    refine call0 (te) (by simp [Ptr, I, EV.lit, RV, rvC]) ?_
    rintro y H' ⟨rfl, rfl⟩
    refine ⟨.inl (by simp [Ptr, I, EV.lit, RV, rvC]), le_ok rfl, ?_⟩
    simp [rvC, hl32, ht, hcn, hS2, w2, -Int.natCast_add]
    refine ⟨by omega, ?_⟩
    exact round (i + 1) [0, 1, 2, 885, 4] (by omega) (by omega) (by simp) (by simp [e1, e2, payF, zC, gC, RSO, RdB, rvC]) (by simp) (by simp) (by simp)
  have hil : i = N.2 := by omega
  subst hil
  obtain ⟨M, hM⟩ : ∃ M, tkN l 8 S.1 = M := ⟨_, rfl⟩
  have tM := RReadCount_t l 8 S.1 qi.1 hl' (by omega)
  have qM := tkN_p (m := 8) qi.1
  rw [hM, heb] at tM
  rw [hM] at qM
  have qH := itH_p qM.1
  have hrs : rdSta l = ((itH l M.1 M.2).1, ⟨A.2, B.2, C.2, S.2, (itH l M.1 M.2).2⟩) := by simp only [rdSta, hA, hB, hC, hN, hS, hM]
  simp [heb]
  refine call0 (tM) (by simp [Ptr, I, EV.lit, RV, rvC]) ?_
  rintro y H' ⟨rfl, rfl⟩
  refine ⟨.inl (by simp [Ptr, I, EV.lit, RV, rvC]), le_ok rfl, ?_⟩
  simp [Ptr, I, EV.lit, RV, rvC]
  refine eloop (α := Nat × List Hol) (fun q => q.1 ≤ M.2 ∧ q.2.length = q.1 ∧ ((itH l M.1 q.1).1.2 = 0 → q.2 = (itH l M.1 q.1).2)) (fun q => M.2 - q.1)
    (fun q => [.any, .any, Ptr 0, .any, Ptr 1, Ptr 2, I .i64 M.2, .any, .any, I .i64 q.1, .any, .any, .any, .any, .any, .any, .any, .any, .any, .any, .any, .any, .any, .any, .any, .any, .any, .any, .any, .any, .any, .any, .any, .any, .any, .any, .any, .any, .any, .any, .any, .any, .any, .any, .any, .any, .any, .any, .any, .any, .any, .any, .any, .any, .any, .any, .any, .any, .any, .any, .any, .any, .any, .any, .any, .any, .any, .any, .any, .any, .any, .any, .any, .any, .any, .any, .any, .any, .any, .any, .any, .any, .any, .any, .any, .any, .any, .any, .any, .any, .any, .any, .any, .any, .any, .any, .any, .any, .any, .any, .any, .any, .any, .any, .any, .any, .any, .any, .any, .any, .any, .any, .any, .any, .any, .any, .any, .any, .any, .any, .any, .any, .any, .any, .any, .any, .any, .any, .any, .any, .any, .any, .any, .any, .any, .any, .any, .any, .any, .any, .any, .any, .any, .any, .any, .any, .any, .any, .any, .any, .any, .any, .any, .any, .any, .any, .any, .any, .any]) (fun q => [some (.box 26 zC), some (RSO ⟨A.2, B.2, C.2, [], []⟩ (.row 3 N.2) (.row 4 q.1)), some (RdB l (itH l M.1 q.1).1), some (.row 74 36 (payv S.2)), some (.row 55 3 (holv q.2))]) (0, []) [0, 1, 2, 3, 4]
    ⟨Nat.zero_le _, rfl, fun _ => rfl⟩ (by simp [Ptr, I]) (by simp [zC, gC, RSO, RdB, rvC, holv, itH]) (by simp) (by simp) (by simp) ?_
  rintro ⟨j, hs⟩ ⟨hj, hhl, hex⟩
  have qj := qH j
  obtain ⟨Z, hZ⟩ : ∃ Z, itH l M.1 j = Z := ⟨_, rfl⟩
  rw [hZ] at qj
  simp only [hZ] at hex
  simp only at hj hhl
  simp [Ptr, I, RSO, RdB, rvC, zC, gC, hZ]
  by_cases heb : Z.1.2 = 0
  rotate_left
  · have hbad : (rdSta l).1.2 ≠ 0 := by
      have h1 := itH_stay (l := l) (σ := M.1) (i := j) (by rw [hZ]; exact heb) (M.2 - j)
      rw [show j + (M.2 - j) = M.2 by omega, hZ] at h1
      rw [hrs]
      show (itH l M.1 M.2).1.2 ≠ 0
      rw [h1]
      exact heb
    have hd : decS l = (zSta, 3) := by simp only [decS]; rw [if_pos (.inl hbad)]
    rw [hd]
    by_cases hlt : j < M.2
    · simp [hlt, heb]
      refine call0 (RDone_ok (l.drop Z.1.1) Z.1.2) (by simp [Ptr, I, EV.lit, RV, rvC]) ?_
      rintro y H' ⟨rfl, rfl⟩
      refine ⟨.inl (by simp [Ptr, I, EV.lit, RV, rvC]), le_ok rfl, ?_⟩
      simp [I, heb, SE, RE, staC, zSta]
      refine finW _ (weak_nlB (o := 0) (k := 3) 36 rfl rfl) (finW _ (weak_nlB (o := 0) (k := 4) 3 rfl rfl) ?_)
      exact fin [] (by decide) rfl rfl rfl ⟨rfl, rfl⟩
    · simp [hlt]
      refine call0 (RDone_ok (l.drop Z.1.1) Z.1.2) (by simp [Ptr, I, EV.lit, RV, rvC]) ?_
      rintro y H' ⟨rfl, rfl⟩
      refine ⟨.inl (by simp [Ptr, I, EV.lit, RV, rvC]), le_ok rfl, ?_⟩
      simp [I, heb, SE, RE, staC, zSta]
      refine finW _ (weak_nlB (o := 0) (k := 3) 36 rfl rfl) (finW _ (weak_nlB (o := 0) (k := 4) 3 rfl rfl) ?_)
      exact fin [] (by decide) rfl rfl rfl ⟨rfl, rfl⟩
  by_cases hlt : j < M.2
  · obtain ⟨a, ha⟩ : ∃ a, tkU l Z.1 = a := ⟨_, rfl⟩
    have ta := Rnum13_ok l Z.1 qj.1 hl'
    have qa := tkU_p qj.1
    rw [ha, heb] at ta
    rw [ha] at qa
    obtain ⟨b, hb⟩ : ∃ b, tkU l a.1 = b := ⟨_, rfl⟩
    have tb := Rnum13_ok l a.1 qa.1 hl'
    have qb := tkU_p qa.1
    rw [hb] at tb qb
    obtain ⟨c, hc⟩ : ∃ c, tkN l 16 b.1 = c := ⟨_, rfl⟩
    have tc := RReadCount_t l 16 b.1 qb.1 hl' (by omega)
    have qc := tkN_p (m := 16) qb.1
    rw [hc] at tc qc
    have qK := itK_p qc.1
    have w2 : IntKind.i64.wrap ((j : Int) + 1) = ((j + 1 : Nat) : Int) := wrap_i64 (by omega) (by omega)
    simp [hlt, heb]
    refine call0 (ta) (by simp [Ptr, I, EV.lit, RV, rvC]) ?_
    rintro y H' ⟨rfl, rfl⟩
    refine ⟨.inl (by simp [Ptr, I, EV.lit, RV, rvC]), le_ok rfl, ?_⟩
    simp [Ptr, I, EV.lit, RV, rvC]
    refine call0 (tb) (by simp [Ptr, I, EV.lit, RV, rvC]) ?_
    rintro y H' ⟨rfl, rfl⟩
    refine ⟨.inl (by simp [Ptr, I, EV.lit, RV, rvC]), le_ok rfl, ?_⟩
    simp [Ptr, I, EV.lit, RV, rvC]
    refine call0 (tc) (by simp [Ptr, I, EV.lit, RV, rvC]) ?_
    rintro y H' ⟨rfl, rfl⟩
    refine ⟨.inl (by simp [Ptr, I, EV.lit, RV, rvC]), le_ok rfl, ?_⟩
    simp [Ptr, I, EV.lit, RV, rvC]
    refine loopW _ (weak_nil (o := 149) (k := 2) (ty := 3) (es := 1) rfl rfl (by omega)) ?_
    refine eloop (α := Nat) (fun k => k ≤ c.2) (fun k => c.2 - k)
      (fun k => [.any, .any, Ptr 0, .any, Ptr 1, Ptr 2, I .i64 M.2, .any, .any, I .i64 j, Ptr 5, I .i64 c.2, I .i64 k, .any, .any, .any, .any, .any, .any, .any, .any, .any, .any, .any, .any, .any, .any, .any, .any, .any, .any, .any, .any, .any, .any, .any, .any, .any, .any, .any, .any, .any, .any, .any, .any, .any, .any, .any, .any, .any, .any, .any, .any, .any, .any, .any, .any, .any, .any, .any, .any, .any, .any, .any, .any, .any, .any, .any, .any, .any, .any, .any, .any, .any, .any, .any, .any, .any, .any, .any, .any, .any, .any, .any, .any, .any, .any, .any, .any, .any, .any, .any, .any, .any, .any, .any, .any, .any, .any, .any, .any, .any, .any, .any, .any, .any, .any, .any, .any, .any, .any, .any, .any, .any, .any, .any, .any, .any, .any, .any, .any, .any, .any, .any, .any, .any, .any, .any, .any, .any, .any, .any, .any, .any, .any, .any, .any, .any, .any, .any, .any, .any, .any, .any, .any, .any, .any, .any, .any, .any, .any, .any, .any, .any, .any, .any, .any, .any, .any]) (fun k => [some (.box 26 zC), some (RSO ⟨A.2, B.2, C.2, [], []⟩ (.row 3 N.2) (.row 4 j)), some (RdB l (itK l c.1 k).1), some (.row 74 36 (payv S.2)), some (.row 55 3 (holv hs)), some (.box 55 [.fz (.lit (.int .i64 a.2)), .fz (.lit (.int .i64 b.2)), .row 6 k]), some (.row 3 1 (intv (itK l c.1 k).2))]) 0 [0, 1, 2, 3, 4, 149, 581]
      (Nat.zero_le _) (by simp [Ptr, I]) (by simp [zC, gC, RSO, RdB, rvC, intv, itK, hhl]) (by simp) (by simp) (by simp) ?_
    intro k hk
    have qk := qK k
    obtain ⟨Y, hY⟩ : ∃ Y, itK l c.1 k = Y := ⟨_, rfl⟩
    rw [hY] at qk
    have hY2 := qk.2.1
    simp [Ptr, I, RSO, RdB, rvC, zC, gC, hY]
    by_cases hgo : k < c.2 ∧ Y.1.2 = 0
    · obtain ⟨hlk, hek⟩ := hgo
      obtain ⟨x, hx⟩ : ∃ x, tkU l Y.1 = x := ⟨_, rfl⟩
      have tx := Rnum13_ok l Y.1 qk.1 hl'
      rw [hx, hek] at tx
      have e1 : itK l c.1 (k + 1) = (x.1, Y.2 ++ [x.2]) := by simp only [itK, hY, hx]
      have e2 : intv (Y.2 ++ [x.2]) = intv Y.2 ++ [[.lit (.int .i64 x.2)]] := by simp [intv]
      have w3 : IntKind.i64.wrap ((k : Int) + 1) = ((k + 1 : Nat) : Int) := wrap_i64 (by omega) (by omega)
      simp [hlk, hek]
      refine call0 (tx) (by simp [Ptr, I, EV.lit, RV, rvC]) ?_
      rintro y H' ⟨rfl, rfl⟩
      refine ⟨.inl (by simp [Ptr, I, EV.lit, RV, rvC]), le_ok rfl, ?_⟩
      simp [rvC, w3, hY2, -Int.natCast_add]
      refine ⟨by omega, ?_⟩
      exact round (k + 1) [0, 1, 2, 3, 4, 5, 327] (by omega) (by omega) (by simp) (by simp [e1, e2, zC, gC, RSO, RdB, rvC, hhl, hY2]) (by simp) (by simp) (by simp)
    have e1 : (itH l M.1 (j + 1)).1 = Y.1 := by
      have h1 : (itK l c.1 c.2).1 = Y.1 := by
        by_cases h : k = c.2
        · rw [← h, hY]
        · have h2 := itK_stay (l := l) (σ := c.1) (i := k) (by rw [hY]; intro h3; exact hgo ⟨by omega, h3⟩) (c.2 - k)
          rw [show k + (c.2 - k) = c.2 by omega, hY] at h2
          exact h2
      simp only [itH, hZ, rdHol, ha, hb, hc, h1]
    have hnx : (itH l M.1 (j + 1)).1.2 = 0 → hs ++ [⟨a.2, b.2, Y.2⟩] = (itH l M.1 (j + 1)).2 := by
      intro h
      rw [e1] at h
      have hkc : k = c.2 := by
        apply Classical.byContradiction
        intro h3
        exact hgo ⟨by omega, h⟩
      subst hkc
      rw [hex heb]
      simp only [itH, hZ, rdHol, ha, hb, hc, hY]
    by_cases hlk : k < c.2
    · have hek : ¬ Y.1.2 = 0 := fun h => hgo ⟨hlk, h⟩
      simp [hlk, hek, w2, hhl, hY2, -Int.natCast_add]
      have e2 : holv (hs ++ [⟨a.2, b.2, Y.2⟩]) = holv hs ++ [holF ⟨a.2, b.2, Y.2⟩] := by simp [holv]
      refine ⟨⟨by omega, by omega⟩, ?_⟩
      exact round (j + 1, hs ++ [⟨a.2, b.2, Y.2⟩]) [0, 1, 2, 3, 199] ⟨by omega, by simp [hhl], fun h => hnx h⟩ (by simp; omega) (by simp) (by simp [e1, e2, holF, zC, gC, RSO, RdB, rvC, List.take_of_length_le, hY2]) (by simp) (by simp) (by simp)
    · simp [hlk, w2, hhl, hY2, -Int.natCast_add]
      have e2 : holv (hs ++ [⟨a.2, b.2, Y.2⟩]) = holv hs ++ [holF ⟨a.2, b.2, Y.2⟩] := by simp [holv]
      refine ⟨⟨by omega, by omega⟩, ?_⟩
      exact round (j + 1, hs ++ [⟨a.2, b.2, Y.2⟩]) [0, 1, 2, 3, 199] ⟨by omega, by simp [hhl], fun h => hnx h⟩ (by simp; omega) (by simp) (by simp [e1, e2, holF, zC, gC, RSO, RdB, rvC, List.take_of_length_le, hY2]) (by simp) (by simp) (by simp)
  have hjl : j = M.2 := by omega
  subst hjl
  have hsZ := hex heb
  subst hsZ
  rw [hZ] at hrs
  have hdp := rdSta_p l
  rw [hrs] at hdp
  simp [heb]
  refine call0 (RDone_ok (l.drop Z.1.1) 0) (by simp [Ptr, I, EV.lit, RV, rvC]) ?_
  rintro y H' ⟨rfl, rfl⟩
  refine ⟨.inl (by simp [Ptr, I, EV.lit, RV, rvC]), le_ok rfl, ?_⟩
  by_cases hle : Z.1.1 < l.length
  · have hd : decS l = (zSta, 3) := by
      simp only [decS, hrs]
      rw [if_pos (.inr (.inl hle))]
    have hne : ¬ (l.drop Z.1.1).length = 0 := by rw [List.length_drop]; omega
    have hne2 : ¬ l.length - Z.1.1 = 0 := by omega
    rw [hd]
    simp [I, hne, hne2, SE, RE, staC, zSta]
    refine finW _ (weak_nlB (o := 0) (k := 3) 36 rfl rfl) (finW _ (weak_nlB (o := 0) (k := 4) 3 rfl rfl) ?_)
    exact fin [] (by decide) rfl rfl rfl ⟨rfl, rfl⟩
  have hne2 : l.length - Z.1.1 = 0 := by omega
  simp [I, hne2]
  refine call0 (RCheck_ok ⟨A.2, B.2, C.2, S.2, Z.2⟩ hdp.2.1) (by simp [SV, staC, hS2, hhl, List.take_of_length_le]) ?_
  rintro y H' ⟨rfl, rfl⟩
  refine ⟨.inr ⟨rfl, by simp⟩, le_ok rfl, ?_⟩
  by_cases hmay : mayS ⟨A.2, B.2, C.2, S.2, Z.2⟩ = true
  · have hd : decS l = (⟨A.2, B.2, C.2, S.2, Z.2⟩, 0) := by
      simp only [decS, hrs]
      rw [if_neg]
      rintro (h | h | h)
      · exact h heb
      · exact hle h
      · rw [hmay] at h; cases h
    have hck : chkS ⟨A.2, B.2, C.2, S.2, Z.2⟩ = 0 := by simp [chkS, hmay]
    rw [hd, hck]
    simp [I, SE, RE]
    refine finW _ (weak_frz (o := 3) (ty := 74) (es := 36) (xs := payv S.2) rfl) ?_
    refine finW _ (weak_frz (o := 4) (ty := 55) (es := 3) (xs := holv Z.2) rfl) ?_
    exact fin [] (by decide) rfl rfl rfl ⟨rfl, by simp [staC, List.take_of_length_le, hS2, hhl]⟩
  · have hmay' : mayS ⟨A.2, B.2, C.2, S.2, Z.2⟩ = false := by simpa using hmay
    have hd : decS l = (zSta, 3) := by
      simp only [decS, hrs]
      rw [if_pos (.inr (.inr hmay'))]
    have hck : chkS ⟨A.2, B.2, C.2, S.2, Z.2⟩ = 1 := chk_f hmay'
    rw [hd, hck]
    simp [I, SE, RE, staC, zSta]
    refine finW _ (weak_nlB (o := 0) (k := 3) 36 rfl rfl) (finW _ (weak_nlB (o := 0) (k := 4) 3 rfl rfl) ?_)
    exact fin [] (by decide) rfl rfl rfl ⟨rfl, rfl⟩

end Go.Proofs.YtpohjnhlhfbnaaaGreatDoor

namespace Go.Proofs.YtpohjnhlhfbnaaaGreatDoor
open Go Go.EW
set_option linter.unusedSimpArgs false
set_option linter.unusedVariables false
/- A state that may be is made of its bytes again; one that may not be is made of none. Plain. -/

/-- What a reading gives at bytes that were laid: all of it, or an error. -/
def Gt {α : Type} (f : Rs → Rs × α) (p : Nat) (b : List UInt8) (v : α) (C : Prop) : Prop := (C → f (p, 0) = ((p + b.length, 0), v)) ∧ ((f (p, 0)).1.2 = 0 → C)
theorem Gt.bind {α β : Type} {f : Rs → Rs × α} {g : α → Rs → Rs × β} {p : Nat} {b b' : List UInt8} {v : α} {v' : β} {C C' : Prop} (he : ∀ x σ, σ.2 ≠ 0 → (g x σ).1.2 ≠ 0) (h1 : Gt f p b v C) (h2 : C → Gt (g v) (p + b.length) b' v' C') :
    Gt (fun σ => g (f σ).2 (f σ).1) p (b ++ b') v' (C ∧ C') := by
  constructor
  · rintro ⟨c, c'⟩
    dsimp only
    rw [h1.1 c]
    dsimp only
    rw [(h2 c).1 c', List.length_append, Nat.add_assoc]
  · intro h
    dsimp only at h
    have c : C := by
      refine h1.2 ?_
      rcases Nat.eq_zero_or_pos (f (p, 0)).1.2 with h0 | h0
      · exact h0
      · exact absurd h (he _ _ (by omega))
    rw [h1.1 c] at h
    exact ⟨c, (h2 c).2 h⟩
theorem Gt.map {α β : Type} {f : Rs → Rs × α} {p : Nat} {b : List UInt8} {v : α} {C : Prop} (k : α → β) (h : Gt f p b v C) : Gt (fun σ => ((f σ).1, k (f σ).2)) p b (k v) C := by
  constructor
  · intro c
    dsimp only
    rw [h.1 c]
  · exact h.2
theorem Gt.iff {α : Type} {f : Rs → Rs × α} {p : Nat} {b : List UInt8} {v : α} {C C' : Prop} (h : Gt f p b v C) (e : C ↔ C') : Gt f p b v C' := ⟨fun c => h.1 (e.2 c), fun c => e.1 (h.2 c)⟩
theorem drop_of {l a r : List UInt8} {p : Nat} (h : l.drop p = a ++ r) : l.drop (p + a.length) = r := by rw [← List.drop_drop, h]; simp
def inr (n : Int) : Prop := 0 ≤ n ∧ n ≤ 1125899906842624
theorem num_big {k most : Nat} (h : k < 18446744073709551616) (hm : most < k) (r : List UInt8) : (numS (uintB k ++ r) most).1 = 4 := by
  have h8 := nb_8 h
  have e : uintB k ++ r = b8 (nb k) :: (dg k ++ r) := rfl
  have hb : (b8 (nb k)).toNat = nb k := by simp [b8]; omega
  rw [e]
  unfold numS
  dsimp only
  rw [hb, if_neg (by omega), low_dg0]
  simp [hm]
theorem tkU_G {l r : List UInt8} {p : Nat} {n : Int} (h : l.drop p = uB n ++ r) (hn : i64 n) : Gt (tkU l) p (uB n) n (inr n) := by
  have h64 := u64n_lt n
  constructor
  · rintro ⟨h1, h2⟩
    have hu : (u64n n : Int) = n := by unfold u64n; omega
    have h3 := num_rt (n := u64n n) (most := 1125899906842624) h64 (by omega) r
    simp only [tkU, uS, ne_eq, not_true, if_false]
    rw [h, show uB n = uintB (u64n n) from rfl, h3]
    simp [hu]
  · intro he
    simp only [tkU, uS, ne_eq, not_true, if_false] at he
    rw [h, show uB n = uintB (u64n n) from rfl] at he
    by_cases hb : u64n n ≤ 1125899906842624
    · unfold u64n at hb
      obtain ⟨q1, q2⟩ := hn
      unfold inr
      omega
    · have := num_big h64 (by omega : 1125899906842624 < u64n n) r
      omega
theorem tkN_G {l r : List UInt8} {p n : Nat} {m : Nat} (h : l.drop p = uB (n : Int) ++ r) (hn : n < 18446744073709551616) (hr : n ≤ r.length) : Gt (tkN l (m : Int)) p (uB (n : Int)) n (n ≤ m) := by
  have hu : u64n (n : Int) = n := u64n_ofNat hn
  have hm : (max 0 (m : Int)).toNat = m := by omega
  constructor
  · intro h1
    have h3 := num_rt (n := n) (most := m) hn h1 r
    simp only [tkN, nS, cntS, ne_eq, not_true, if_false]
    rw [h, hm, show uB (n : Int) = uintB (u64n (n : Int)) from rfl, hu, h3]
    dsimp only
    rw [if_neg (by simp), if_neg (by rw [List.length_append]; omega)]
  · intro he
    simp only [tkN, nS, cntS, ne_eq, not_true, if_false] at he
    rw [h, hm, show uB (n : Int) = uintB (u64n (n : Int)) from rfl, hu] at he
    by_cases hb : n ≤ m
    · exact hb
    · have := num_big hn (by omega : m < n) r
      rw [if_pos (by omega)] at he
      dsimp only at he
      omega
theorem tkH_G {l r h : List UInt8} {p : Nat} (e : l.drop p = h ++ r) (hl : h.length = 32) : Gt (tkH l) p h h True := by
  constructor
  · intro _
    simp only [tkH, aS, hashS, ne_eq, not_true, if_false]
    rw [e, if_neg (by rw [List.length_append]; omega)]
    simp [hl]
  · intro _; trivial
def inP (p : Pay) : Prop := inr p.id ∧ inr p.fr ∧ inr p.am ∧ inr p.af
def inH (h : Hol) : Prop := inr h.id ∧ inr h.am ∧ h.keys.length ≤ 16 ∧ ∀ k ∈ h.keys, inr k
theorem rdPay_G {l r : List UInt8} {p : Nat} {q : Pay} (h : l.drop p = payB q ++ r) (hq : q.ok) : Gt (rdPay l) p (payB q) q (inP q) := by
  obtain ⟨o1, o2, o3, o4, o5⟩ := hq
  have e : payB q = uB q.id ++ (uB q.fr ++ (uB q.am ++ (uB q.af ++ q.lock))) := by simp [payB, usB]
  rw [e] at h ⊢
  simp only [List.append_assoc] at h
  have d1 := drop_of h
  have d2 := drop_of d1
  have d3 := drop_of d2
  have d4 := drop_of d3
  have g5 := (tkH_G d4 o5).map fun k => (⟨q.id, q.fr, q.am, q.af, k⟩ : Pay)
  have g4 := Gt.bind (g := fun x σ => ((tkH l σ).1, (⟨q.id, q.fr, q.am, x, (tkH l σ).2⟩ : Pay))) (fun x σ hs => by rw [show (((tkH l σ).1, (⟨q.id, q.fr, q.am, x, (tkH l σ).2⟩ : Pay))).1 = (tkH l σ).1 from rfl, tkH_e hs]; exact hs) (tkU_G d3 o4) fun _ => g5
  have g3 := Gt.bind (g := fun x σ => ((tkH l (tkU l σ).1).1, (⟨q.id, q.fr, x, (tkU l σ).2, (tkH l (tkU l σ).1).2⟩ : Pay))) (fun x σ hs => by dsimp only; rw [tkU_e hs, tkH_e hs]; exact hs) (tkU_G d2 o3) fun _ => g4
  have g2 := Gt.bind (g := fun x σ => ((tkH l (tkU l (tkU l σ).1).1).1, (⟨q.id, x, (tkU l σ).2, (tkU l (tkU l σ).1).2, (tkH l (tkU l (tkU l σ).1).1).2⟩ : Pay))) (fun x σ hs => by dsimp only; rw [tkU_e hs, tkU_e hs, tkH_e hs]; exact hs) (tkU_G d1 o2) fun _ => g3
  have g1 := Gt.bind (g := fun x σ => ((tkH l (tkU l (tkU l (tkU l σ).1).1).1).1, (⟨x, (tkU l σ).2, (tkU l (tkU l σ).1).2, (tkU l (tkU l (tkU l σ).1).1).2, (tkH l (tkU l (tkU l (tkU l σ).1).1).1).2⟩ : Pay))) (fun x σ hs => by dsimp only; rw [tkU_e hs, tkU_e hs, tkU_e hs, tkH_e hs]; exact hs) (tkU_G h o1) fun _ => g2
  exact Gt.iff (f := rdPay l) g1 ⟨fun ⟨a, b, c, d, _⟩ => ⟨a, b, c, d⟩, fun ⟨a, b, c, d⟩ => ⟨a, b, c, d, trivial⟩⟩
/-- Things one behind the other. -/
theorem many_G {α : Type} {l : List UInt8} {rd : Rs → Rs × α} {enc : α → List UInt8} {C : α → Prop} {ok : α → Prop} {it : Rs → Nat → Rs × List α}
    (h0 : ∀ σ, it σ 0 = (σ, [])) (hs : ∀ σ n, it σ (n + 1) = ((rd (it σ n).1).1, (it σ n).2 ++ [(rd (it σ n).1).2])) (he : ∀ σ, σ.2 ≠ 0 → (rd σ).1 = σ)
    (hrd : ∀ p r q, l.drop p = enc q ++ r → ok q → Gt rd p (enc q) q (C q)) (p : Nat) :
    ∀ (n : Nat) (xs : List α) (r : List UInt8), xs.length = n → (∀ x ∈ xs, ok x) → l.drop p = xs.flatMap enc ++ r → Gt (fun σ => it σ n) p (xs.flatMap enc) xs (∀ x ∈ xs, C x)
  | 0, xs, r, hn, ho, h => by
    have : xs = [] := List.eq_nil_of_length_eq_zero hn
    subst this
    exact ⟨fun _ => by simp [h0], fun _ => by simp⟩
  | n + 1, xs, r, hn, ho, h => by
    obtain ⟨ys, y, rfl⟩ : ∃ ys y, xs = ys ++ [y] := ⟨xs.dropLast, xs.getLast (by rintro rfl; simp at hn), (List.dropLast_concat_getLast _).symm⟩
    have e : (ys ++ [y]).flatMap enc = ys.flatMap enc ++ enc y := by simp
    rw [e] at h ⊢
    rw [List.append_assoc] at h
    have g1 := many_G h0 hs he hrd p n ys _ (by simpa using hn) (fun x hx => ho x (by simp [hx])) h
    have g2 := (hrd _ r y (drop_of h) (ho y (by simp))).map fun z => ys ++ [z]
    have g3 := Gt.bind (g := fun (zs : List α) σ => ((rd σ).1, zs ++ [(rd σ).2])) (fun x σ hx => by dsimp only; rw [he σ hx]; exact hx) g1 fun _ => g2
    have g4 : Gt (fun σ => it σ (n + 1)) p (ys.flatMap enc ++ enc y) (ys ++ [y]) ((∀ x ∈ ys, C x) ∧ C y) := by
      have : (fun σ => it σ (n + 1)) = fun σ => ((rd (it σ n).1).1, (it σ n).2 ++ [(rd (it σ n).1).2]) := funext fun σ => hs σ n
      rw [this]
      exact g3
    refine g4.iff ?_
    constructor
    · rintro ⟨a, b⟩ x hx
      rcases List.mem_append.1 hx with h | h
      · exact a x h
      · rw [List.mem_singleton.1 h]; exact b
    · intro a
      exact ⟨fun x hx => a x (by simp [hx]), a y (by simp)⟩
theorem uB_pos (n : Int) : 1 ≤ (uB n).length := by simp [uB, uintB]
theorem flat_ge {α : Type} {f : α → List UInt8} (h : ∀ x, 1 ≤ (f x).length) : ∀ l : List α, l.length ≤ (l.flatMap f).length
  | [] => by simp
  | x :: r => by
    have := h x
    have := flat_ge h r
    simp only [List.flatMap_cons, List.length_append, List.length_cons]
    omega
theorem rdHol_G {l r : List UInt8} {p : Nat} {q : Hol} (h : l.drop p = holB q ++ r) (hq : q.ok) : Gt (rdHol l) p (holB q) q (inH q) := by
  obtain ⟨o1, o2, o3, o4⟩ := hq
  have e : holB q = uB q.id ++ (uB q.am ++ (uB (q.keys.length : Int) ++ q.keys.flatMap uB)) := by simp [holB, usB]
  rw [e] at h ⊢
  simp only [List.append_assoc] at h
  have d1 := drop_of h
  have d2 := drop_of d1
  have d3 := drop_of d2
  have hge := flat_ge uB_pos q.keys
  have g4 := (many_G (rd := tkU l) (enc := uB) (C := inr) (ok := i64) (it := itK l) (fun _ => rfl) (fun _ _ => rfl) (fun σ => tkU_e) (fun p r q => tkU_G) _ q.keys.length q.keys r rfl o3 d3).map fun k => (⟨q.id, q.am, k⟩ : Hol)
  have g3 := Gt.bind (g := fun x σ => ((itK l σ x).1, (⟨q.id, q.am, (itK l σ x).2⟩ : Hol))) (fun x σ hs => by dsimp only; rw [itK_e hs]; exact hs) (tkN_G (m := 16) d2 (by omega) (by rw [List.length_append]; omega)) fun _ => g4
  have g2 := Gt.bind (g := fun x σ => ((itK l (tkN l 16 σ).1 (tkN l 16 σ).2).1, (⟨q.id, x, (itK l (tkN l 16 σ).1 (tkN l 16 σ).2).2⟩ : Hol))) (fun x σ hs => by dsimp only; rw [tkN_e hs]; dsimp only; rw [itK_e hs]; exact hs) (tkU_G d1 o2) fun _ => g3
  have g1 := Gt.bind (g := fun x σ => ((itK l (tkN l 16 (tkU l σ).1).1 (tkN l 16 (tkU l σ).1).2).1, (⟨x, (tkU l σ).2, (itK l (tkN l 16 (tkU l σ).1).1 (tkN l 16 (tkU l σ).1).2).2⟩ : Hol))) (fun x σ hs => by dsimp only; rw [tkU_e hs, tkN_e hs]; dsimp only; rw [itK_e hs]; exact hs) (tkU_G h o1) fun _ => g2
  exact Gt.iff (f := rdHol l) g1 Iff.rfl
def inS (s : Sta) : Prop := inr s.num ∧ inr s.h0 ∧ inr s.h1 ∧ s.pays.length ≤ 8 ∧ (∀ p ∈ s.pays, inP p) ∧ s.holds.length ≤ 8 ∧ ∀ h ∈ s.holds, inH h
theorem payB_pos (q : Pay) : 1 ≤ (payB q).length := by
  have := uB_pos q.id
  simp [payB, usB]
  omega
theorem holB_pos (q : Hol) : 1 ≤ (holB q).length := by
  have := uB_pos q.id
  simp [holB, usB]
  omega
def rdS5 (l : List UInt8) (a b c : Int) (p : List Pay) (σ : Rs) : Rs × Sta := ((itH l (tkN l 8 σ).1 (tkN l 8 σ).2).1, ⟨a, b, c, p, (itH l (tkN l 8 σ).1 (tkN l 8 σ).2).2⟩)
def rdS4 (l : List UInt8) (a b c : Int) (n : Nat) (σ : Rs) : Rs × Sta := rdS5 l a b c (itP l σ n).2 (itP l σ n).1
def rdS3 (l : List UInt8) (a b c : Int) (σ : Rs) : Rs × Sta := rdS4 l a b c (tkN l 8 σ).2 (tkN l 8 σ).1
def rdS2 (l : List UInt8) (a b : Int) (σ : Rs) : Rs × Sta := rdS3 l a b (tkU l σ).2 (tkU l σ).1
def rdS1 (l : List UInt8) (a : Int) (σ : Rs) : Rs × Sta := rdS2 l a (tkU l σ).2 (tkU l σ).1
def rdS0 (l : List UInt8) (σ : Rs) : Rs × Sta := rdS1 l (tkU l σ).2 (tkU l σ).1
theorem rdS5_e {l : List UInt8} {a b c : Int} {p : List Pay} {σ : Rs} (h : σ.2 ≠ 0) : (rdS5 l a b c p σ).1.2 ≠ 0 := by unfold rdS5; dsimp only; rw [tkN_e h]; dsimp only; rw [itH_e h]; exact h
theorem rdS4_e {l : List UInt8} {a b c : Int} {n : Nat} {σ : Rs} (h : σ.2 ≠ 0) : (rdS4 l a b c n σ).1.2 ≠ 0 := by unfold rdS4; rw [itP_e h]; exact rdS5_e h
theorem rdS3_e {l : List UInt8} {a b c : Int} {σ : Rs} (h : σ.2 ≠ 0) : (rdS3 l a b c σ).1.2 ≠ 0 := by unfold rdS3; rw [tkN_e h]; exact rdS4_e h
theorem rdS2_e {l : List UInt8} {a b : Int} {σ : Rs} (h : σ.2 ≠ 0) : (rdS2 l a b σ).1.2 ≠ 0 := by unfold rdS2; rw [tkU_e h]; exact rdS3_e h
theorem rdS1_e {l : List UInt8} {a : Int} {σ : Rs} (h : σ.2 ≠ 0) : (rdS1 l a σ).1.2 ≠ 0 := by unfold rdS1; rw [tkU_e h]; exact rdS2_e h
theorem rdSta_G {s : Sta} (hs : s.ok) : Gt (rdS0 (encS s)) 0 (encS s) s (inS s) := by
  obtain ⟨ok1, ok2, ok3, ok4, ok5, ok6, ok7⟩ := hs
  have e : encS s = uB s.num ++ (uB s.h0 ++ (uB s.h1 ++ (uB (s.pays.length : Int) ++ (s.pays.flatMap payB ++ (uB (s.holds.length : Int) ++ s.holds.flatMap holB))))) := by simp [encS, usB]
  obtain ⟨l, hl⟩ : ∃ l, encS s = l := ⟨_, rfl⟩
  rw [hl] at e ⊢
  have h : l.drop 0 = uB s.num ++ (uB s.h0 ++ (uB s.h1 ++ (uB (s.pays.length : Int) ++ (s.pays.flatMap payB ++ (uB (s.holds.length : Int) ++ (s.holds.flatMap holB ++ [])))))) := by rw [List.append_nil, ← e, List.drop_zero]
  have d1 := drop_of h
  have d2 := drop_of d1
  have d3 := drop_of d2
  have d4 := drop_of d3
  have d5 := drop_of d4
  have d6 := drop_of d5
  have hg1 := flat_ge payB_pos s.pays
  have hg2 := flat_ge holB_pos s.holds
  have g7 := (many_G (rd := rdHol l) (enc := holB) (C := inH) (ok := Hol.ok) (it := itH l) (fun _ => rfl) (fun _ _ => rfl) (fun σ => rdHol_e) (fun p r q => rdHol_G) _ s.holds.length s.holds [] rfl ok5 d6).map fun k => (⟨s.num, s.h0, s.h1, s.pays, k⟩ : Sta)
  have g6 := Gt.bind (g := fun x σ => ((itH l σ x).1, (⟨s.num, s.h0, s.h1, s.pays, (itH l σ x).2⟩ : Sta))) (fun x σ hx => by dsimp only; rw [itH_e hx]; exact hx) (tkN_G (m := 8) d5 (by omega) (by rw [List.length_append]; omega)) fun _ => g7
  have g5 := Gt.bind (g := fun x σ => rdS5 l s.num s.h0 s.h1 x σ) (fun x σ hx => rdS5_e hx) (many_G (rd := rdPay l) (enc := payB) (C := inP) (ok := Pay.ok) (it := itP l) (fun _ => rfl) (fun _ _ => rfl) (fun σ => rdPay_e) (fun p r q => rdPay_G) _ s.pays.length s.pays _ rfl ok4 d4) fun _ => g6
  have g4 := Gt.bind (g := fun x σ => rdS4 l s.num s.h0 s.h1 x σ) (fun x σ hx => rdS4_e hx) (tkN_G (m := 8) d3 (by omega) (by rw [List.length_append]; omega)) fun _ => g5
  have g3 := Gt.bind (g := fun x σ => rdS3 l s.num s.h0 x σ) (fun x σ hx => rdS3_e hx) (tkU_G d2 ok3) fun _ => g4
  have g2 := Gt.bind (g := fun x σ => rdS2 l s.num x σ) (fun x σ hx => rdS2_e hx) (tkU_G d1 ok2) fun _ => g3
  have g1 := Gt.bind (g := fun x σ => rdS1 l x σ) (fun x σ hx => rdS1_e hx) (tkU_G h ok1) fun _ => g2
  have e2 : l = uB s.num ++ (uB s.h0 ++ (uB s.h1 ++ (uB (s.pays.length : Int) ++ (s.pays.flatMap payB ++ (uB (s.holds.length : Int) ++ s.holds.flatMap holB))))) := e
  have g0 : Gt (rdS0 l) 0 (uB s.num ++ (uB s.h0 ++ (uB s.h1 ++ (uB (s.pays.length : Int) ++ (s.pays.flatMap payB ++ (uB (s.holds.length : Int) ++ s.holds.flatMap holB)))))) s (inS s) :=
    Gt.iff (f := rdS0 l) g1 Iff.rfl
  rw [← e2] at g0
  exact g0
theorem keysS_le : ∀ {l : List Int} {last : Int}, -1 ≤ last → keysS last l = true → (∀ k ∈ l, 0 ≤ k ∧ k < 16) ∧ (l.length : Int) ≤ max 0 (15 - last)
  | [], last, h0, _ => by simp; omega
  | k :: r, last, h0, h => by
    simp only [keysS, Bool.and_eq_true, decide_eq_true_eq] at h
    obtain ⟨⟨h1, h2⟩, h3⟩ := h
    obtain ⟨q1, q2⟩ := keysS_le (last := k) (by omega) h3
    refine ⟨?_, ?_⟩
    · intro x hx
      rcases List.mem_cons.1 hx with rfl | hx
      · omega
      · exact q1 x hx
    · simp only [List.length_cons]
      omega
theorem mayP_in {p : Pay} (h : mayP p = true) : inP p := by
  have := of_decide_eq_true h
  obtain ⟨h1, h2, h3, h4, h5, h6, h7, h8⟩ := this
  refine ⟨⟨h1, by omega⟩, ?_, ⟨by omega, h5⟩, ⟨h6, by omega⟩⟩
  unfold inr; omega
theorem mayH_in {p : Hol} (h : mayH p = true) : inH p := by
  simp only [mayH, Bool.and_eq_true, decide_eq_true_eq] at h
  obtain ⟨h1, h2, h3, h4, h5, h6⟩ := h
  obtain ⟨q1, q2⟩ := keysS_le (by omega) h1
  refine ⟨⟨h2, by omega⟩, ⟨by omega, h5⟩, by omega, fun k hk => ?_⟩
  have := q1 k hk
  unfold inr; omega
theorem payL_in : ∀ {o : Option Int} {l : List Pay}, payL o l = true → ∀ p ∈ l, mayP p = true
  | o, [], _, p, hp => by simp at hp
  | o, q :: r, h, p, hp => by
    simp only [payL, Bool.and_eq_true] at h
    rcases List.mem_cons.1 hp with rfl | hp
    · exact h.1.1
    · exact payL_in h.2 p hp
theorem holL_in : ∀ {o : Option Int} {l : List Hol}, holL o l = true → ∀ p ∈ l, mayH p = true
  | o, [], _, p, hp => by simp at hp
  | o, q :: r, h, p, hp => by
    simp only [holL, Bool.and_eq_true] at h
    rcases List.mem_cons.1 hp with rfl | hp
    · exact h.1.1
    · exact holL_in h.2 p hp
theorem mayS_in {s : Sta} (h : mayS s = true) : inS s := by
  obtain ⟨⟨h1, h2, h3, h4, h5, h6, h7, h8⟩, hp, hh, _⟩ := mayS_t h
  refine ⟨⟨h1, by omega⟩, ⟨h3, h4⟩, ⟨h5, h6⟩, h7, fun p hpm => mayP_in (payL_in hp p hpm), by omega, fun q hq => mayH_in (holL_in hh q hq)⟩
/-- A state that may be is made of its bytes again; one that may not be is made of none. -/
theorem decS_rt {s : Sta} (hs : s.ok) : decS (encS s) = if mayS s then (s, 0) else (zSta, 3) := by
  have hg := rdSta_G hs
  have he : rdSta (encS s) = rdS0 (encS s) (0, 0) := rfl
  by_cases hi : inS s
  · have h1 := hg.1 hi
    unfold decS
    rw [he, h1]
    by_cases hm : mayS s = true
    · simp [hm]
    · simp [hm]
  · have hm : ¬ mayS s = true := fun h => hi (mayS_in h)
    have h1 : (rdS0 (encS s) (0, 0)).1.2 ≠ 0 := fun h => hi (hg.2 h)
    unfold decS
    rw [he, if_pos (.inl h1), if_neg hm]

end Go.Proofs.YtpohjnhlhfbnaaaGreatDoor
