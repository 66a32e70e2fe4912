import Derived.Test.YtpohjnhlhfbnaaaDoorAll10
import Derived.Test.YtpohjnhlhfbnaaaDoorAll8
import Derived.Test.YtpohjnhlhfbnaaaDoorAll7
import Derived.Test.YtpohjnhlhfbnaaaDoorProg
import Derived.Test.YtpohjnhlhfbnaaaDoorAll5
namespace Go.Proofs.YtpohjnhlhfbnaaaDoor
open Go Go.EW
set_option linter.unusedSimpArgs false
set_option linter.unusedVariables false
/- What bytes are read as: plain. -/

/-- A reader's place, its error. -/
abbrev Rs := Nat × Nat
def tkU (l : List UInt8) (σ : Rs) : Rs × Int := ((σ.1 + (uS (l.drop σ.1) σ.2 1125899906842624).2.2, (uS (l.drop σ.1) σ.2 1125899906842624).1), ((uS (l.drop σ.1) σ.2 1125899906842624).2.1 : Nat))
def tkN (l : List UInt8) (m : Int) (σ : Rs) : Rs × Nat := ((σ.1 + (nS (l.drop σ.1) σ.2 m).2.2, (nS (l.drop σ.1) σ.2 m).1), (nS (l.drop σ.1) σ.2 m).2.1)
def tkH (l : List UInt8) (σ : Rs) : Rs × List UInt8 := ((σ.1 + (aS (l.drop σ.1) σ.2).2.2, (aS (l.drop σ.1) σ.2).1), (aS (l.drop σ.1) σ.2).2.1)
def rdPay (l : List UInt8) (σ : Rs) : Rs × Pay :=
  let a := tkU l σ; let b := tkU l a.1; let c := tkU l b.1; let d := tkU l c.1; let h := tkH l d.1
  (h.1, ⟨a.2, b.2, c.2, d.2, h.2⟩)
def itP (l : List UInt8) (σ : Rs) : Nat → Rs × List Pay
  | 0 => (σ, [])
  | n + 1 => ((rdPay l (itP l σ n).1).1, (itP l σ n).2 ++ [(rdPay l (itP l σ n).1).2])
def itK (l : List UInt8) (σ : Rs) : Nat → Rs × List Int
  | 0 => (σ, [])
  | n + 1 => ((tkU l (itK l σ n).1).1, (itK l σ n).2 ++ [(tkU l (itK l σ n).1).2])
def rdHol (l : List UInt8) (σ : Rs) : Rs × Hol :=
  let a := tkU l σ; let b := tkU l a.1; let c := tkN l 16 b.1; let k := itK l c.1 c.2
  (k.1, ⟨a.2, b.2, k.2⟩)
def itH (l : List UInt8) (σ : Rs) : Nat → Rs × List Hol
  | 0 => (σ, [])
  | n + 1 => ((rdHol l (itH l σ n).1).1, (itH l σ n).2 ++ [(rdHol l (itH l σ n).1).2])
def rdSta (l : List UInt8) : Rs × Sta :=
  let a := tkU l (0, 0); let b := tkU l a.1; let c := tkU l b.1; let n := tkN l 8 c.1; let p := itP l n.1 n.2; let m := tkN l 8 p.1; let h := itH l m.1 m.2
  (h.1, ⟨a.2, b.2, c.2, p.2, h.2⟩)
/-- The state that bytes are, or the error. -/
def decS (l : List UInt8) : Sta × Nat :=
  if (rdSta l).1.2 ≠ 0 ∨ (rdSta l).1.1 < l.length ∨ mayS (rdSta l).2 = false then (zSta, 3) else ((rdSta l).2, 0)

/-! ### an error stays -/
theorem tkU_e {l : List UInt8} {σ : Rs} (h : σ.2 ≠ 0) : (tkU l σ).1 = σ := by obtain ⟨p, e⟩ := σ; simp [tkU, uS, show e ≠ 0 from h]
theorem tkN_e {l : List UInt8} {m : Int} {σ : Rs} (h : σ.2 ≠ 0) : tkN l m σ = (σ, 0) := by obtain ⟨p, e⟩ := σ; simp [tkN, nS, show e ≠ 0 from h]
theorem tkH_e {l : List UInt8} {σ : Rs} (h : σ.2 ≠ 0) : (tkH l σ).1 = σ := by obtain ⟨p, e⟩ := σ; simp [tkH, aS, show e ≠ 0 from h]
theorem rdPay_e {l : List UInt8} {σ : Rs} (h : σ.2 ≠ 0) : (rdPay l σ).1 = σ := by simp [rdPay, tkU_e h, tkH_e h]
theorem itP_e {l : List UInt8} {σ : Rs} (h : σ.2 ≠ 0) : ∀ n, (itP l σ n).1 = σ
  | 0 => rfl
  | n + 1 => by simp [itP, itP_e h n, rdPay_e h]
theorem itK_e {l : List UInt8} {σ : Rs} (h : σ.2 ≠ 0) : ∀ n, (itK l σ n).1 = σ
  | 0 => rfl
  | n + 1 => by simp [itK, itK_e h n, tkU_e h]
theorem rdHol_e {l : List UInt8} {σ : Rs} (h : σ.2 ≠ 0) : (rdHol l σ).1 = σ := by simp [rdHol, tkU_e h, tkN_e h, itK_e h]
theorem itH_e {l : List UInt8} {σ : Rs} (h : σ.2 ≠ 0) : ∀ n, (itH l σ n).1 = σ
  | 0 => rfl
  | n + 1 => by simp [itH, itH_e h n, rdHol_e h]
theorem itP_stay {l : List UInt8} {σ : Rs} {i : Nat} (h : (itP l σ i).1.2 ≠ 0) : ∀ k, (itP l σ (i + k)).1 = (itP l σ i).1
  | 0 => rfl
  | k + 1 => by
    have := itP_stay h k
    show (rdPay l (itP l σ (i + k)).1).1 = _
    rw [this, rdPay_e h]
theorem itK_stay {l : List UInt8} {σ : Rs} {i : Nat} (h : (itK l σ i).1.2 ≠ 0) : ∀ k, (itK l σ (i + k)).1 = (itK l σ i).1
  | 0 => rfl
  | k + 1 => by
    have := itK_stay h k
    show (tkU l (itK l σ (i + k)).1).1 = _
    rw [this, tkU_e h]
theorem itH_stay {l : List UInt8} {σ : Rs} {i : Nat} (h : (itH l σ i).1.2 ≠ 0) : ∀ k, (itH l σ (i + k)).1 = (itH l σ i).1
  | 0 => rfl
  | k + 1 => by
    have := itH_stay h k
    show (rdHol l (itH l σ (i + k)).1).1 = _
    rw [this, rdHol_e h]

/-! ### nothing is read past the end; what is read is of the right kind -/
theorem tkU_p {l : List UInt8} {σ : Rs} (h : σ.1 ≤ l.length) : (tkU l σ).1.1 ≤ l.length ∧ 0 ≤ (tkU l σ).2 ∧ (tkU l σ).2 ≤ 1125899906842624 := by
  simp only [tkU, uS]
  split
  · exact ⟨by simpa using h, by simp, by simp⟩
  · have := numS_ok (l.drop σ.1) 1125899906842624
    rw [List.length_drop] at this
    exact ⟨by omega, by omega, by omega⟩
theorem cntS_p (b : List UInt8) (m : Int) : (cntS b m).2.2 ≤ b.length ∧ ((cntS b m).2.1 : Int) ≤ max 0 m := by
  have := numS_ok b (max 0 m).toNat
  simp only [cntS]
  split
  · simp; omega
  split
  · simp; omega
  · omega
theorem tkN_p {l : List UInt8} {m : Int} {σ : Rs} (h : σ.1 ≤ l.length) : (tkN l m σ).1.1 ≤ l.length ∧ ((tkN l m σ).2 : Int) ≤ max 0 m := by
  simp only [tkN, nS]
  split
  · exact ⟨by simpa using h, by simp; omega⟩
  · have := cntS_p (l.drop σ.1) m
    rw [List.length_drop] at this
    exact ⟨by omega, this.2⟩
theorem tkH_p {l : List UInt8} {σ : Rs} (h : σ.1 ≤ l.length) : (tkH l σ).1.1 ≤ l.length ∧ (tkH l σ).2.length = 32 := by
  simp only [tkH, aS, hashS]
  split
  · exact ⟨by simpa using h, by simp [hz]⟩
  · split
    · exact ⟨by simpa using h, by simp [hz]⟩
    · rename_i h1 h2
      rw [List.length_drop] at h2
      exact ⟨by show σ.1 + 32 ≤ _; omega, by simp; omega⟩
theorem rdPay_p {l : List UInt8} {σ : Rs} (h : σ.1 ≤ l.length) : (rdPay l σ).1.1 ≤ l.length ∧ (rdPay l σ).2.ok := by
  have a := tkU_p h
  have b := tkU_p a.1
  have c := tkU_p b.1
  have d := tkU_p c.1
  have e := tkH_p d.1
  refine ⟨e.1, ⟨?_, ?_, ?_, ?_, e.2⟩⟩ <;> simp only [rdPay, i64] <;> omega
theorem itP_p {l : List UInt8} {σ : Rs} (h : σ.1 ≤ l.length) : ∀ n, (itP l σ n).1.1 ≤ l.length ∧ (itP l σ n).2.length = n ∧ ∀ p ∈ (itP l σ n).2, p.ok
  | 0 => ⟨h, rfl, by simp [itP]⟩
  | n + 1 => by
    have ih := itP_p h n
    have q := rdPay_p ih.1
    refine ⟨q.1, by simp [itP, ih.2.1], ?_⟩
    intro p hp
    simp only [itP, List.mem_append, List.mem_singleton] at hp
    rcases hp with hp | rfl
    · exact ih.2.2 p hp
    · exact q.2
theorem itK_p {l : List UInt8} {σ : Rs} (h : σ.1 ≤ l.length) : ∀ n, (itK l σ n).1.1 ≤ l.length ∧ (itK l σ n).2.length = n ∧ ∀ p ∈ (itK l σ n).2, i64 p
  | 0 => ⟨h, rfl, by simp [itK]⟩
  | n + 1 => by
    have ih := itK_p h n
    have q := tkU_p ih.1
    refine ⟨q.1, by simp [itK, ih.2.1], ?_⟩
    intro p hp
    simp only [itK, List.mem_append, List.mem_singleton] at hp
    rcases hp with hp | rfl
    · exact ih.2.2 p hp
    · unfold i64; omega
theorem rdHol_p {l : List UInt8} {σ : Rs} (h : σ.1 ≤ l.length) : (rdHol l σ).1.1 ≤ l.length ∧ (rdHol l σ).2.ok ∧ (rdHol l σ).2.keys.length ≤ 16 := by
  have a := tkU_p h
  have b := tkU_p a.1
  have c := tkN_p (m := 16) b.1
  have d := itK_p c.1 (tkN l 16 (tkU l (tkU l σ).1).1).2
  have e : (rdHol l σ).2.keys.length = (tkN l 16 (tkU l (tkU l σ).1).1).2 := d.2.1
  refine ⟨d.1, ⟨?_, ?_, d.2.2, by omega⟩, by omega⟩ <;> simp only [rdHol, i64] <;> omega
theorem itH_p {l : List UInt8} {σ : Rs} (h : σ.1 ≤ l.length) : ∀ n, (itH l σ n).1.1 ≤ l.length ∧ (itH l σ n).2.length = n ∧ ∀ p ∈ (itH l σ n).2, p.ok ∧ p.keys.length ≤ 16
  | 0 => ⟨h, rfl, by simp [itH]⟩
  | n + 1 => by
    have ih := itH_p h n
    have q := rdHol_p ih.1
    refine ⟨q.1, by simp [itH, ih.2.1], ?_⟩
    intro p hp
    simp only [itH, List.mem_append, List.mem_singleton] at hp
    rcases hp with hp | rfl
    · exact ih.2.2 p hp
    · exact q.2
theorem rdSta_p (l : List UInt8) : (rdSta l).1.1 ≤ l.length ∧ (rdSta l).2.ok ∧ (rdSta l).2.small := by
  have a := tkU_p (l := l) (σ := (0, 0)) (by simp)
  have b := tkU_p a.1
  have c := tkU_p b.1
  have n := tkN_p (m := 8) c.1
  have p := itP_p n.1 (tkN l 8 (tkU l (tkU l (tkU l (0, 0)).1).1).1).2
  have m := tkN_p (m := 8) p.1
  have h := itH_p m.1 (tkN l 8 (itP l (tkN l 8 (tkU l (tkU l (tkU l (0, 0)).1).1).1).1 (tkN l 8 (tkU l (tkU l (tkU l (0, 0)).1).1).1).2).1).2
  have e1 : (rdSta l).2.pays.length = (tkN l 8 (tkU l (tkU l (tkU l (0, 0)).1).1).1).2 := p.2.1
  have e2 : (rdSta l).2.holds.length = _ := h.2.1
  refine ⟨h.1, ⟨?_, ?_, ?_, p.2.2, fun x hx => (h.2.2 x hx).1, by omega, by omega⟩, by omega, by omega, fun x hx => by have := (h.2.2 x hx).2; omega⟩ <;> simp only [rdSta, i64] <;> omega
theorem decS_p (l : List UInt8) : (decS l).1.ok ∧ (decS l).1.small := by
  have h := rdSta_p l
  unfold decS
  split
  · exact ⟨by simp [zSta, Sta.ok, i64], by simp [zSta, Sta.small]⟩
  · exact ⟨h.2.1, h.2.2⟩

/-! ### what is read is told by the same bytes again -/
def Rd (l : List UInt8) (σ : Rs) (b : List UInt8) (τ : Rs) : Prop := τ.2 = 0 → σ.2 = 0 ∧ l.drop σ.1 = b ++ l.drop τ.1
theorem Rd.comp {l a b : List UInt8} {σ τ ρ : Rs} (h1 : Rd l σ a τ) (h2 : Rd l τ b ρ) : Rd l σ (a ++ b) ρ := by
  intro h
  obtain ⟨q1, q2⟩ := h2 h
  obtain ⟨q3, q4⟩ := h1 q1
  exact ⟨q3, by rw [q4, q2, List.append_assoc]⟩
theorem Rd.refl (l : List UInt8) (σ : Rs) : Rd l σ [] σ := fun h => ⟨h, rfl⟩
theorem u64n_ofNat {n : Nat} (h : n < 18446744073709551616) : u64n (n : Int) = n := by unfold u64n; omega
theorem tkU_rd (l : List UInt8) (σ : Rs) : Rd l σ (uB (tkU l σ).2) (tkU l σ).1 := by
  intro h
  simp only [tkU, uS] at h ⊢
  split at h
  · rename_i he; exact absurd h he
  rename_i he
  rw [if_neg he]
  have h1 := num_inv h
  have h2 := numS_ok (l.drop σ.1) 1125899906842624
  refine ⟨by omega, ?_⟩
  rw [uB, u64n_ofNat h2.1, ← List.drop_drop]
  exact h1.1
theorem tkN_rd (l : List UInt8) (m : Int) (σ : Rs) : Rd l σ (uB ((tkN l m σ).2 : Int)) (tkN l m σ).1 := by
  intro h
  simp only [tkN, nS] at h ⊢
  split at h
  · rename_i he; exact absurd h he
  rename_i he
  rw [if_neg he]
  simp only [cntS] at h ⊢
  split at h
  · rename_i he; exact absurd h he
  rename_i he2
  rw [if_neg he2]
  split at h
  · simp at h
  rename_i he3
  rw [if_neg he3]
  have h1 := num_inv h
  have h2 := numS_ok (l.drop σ.1) (max 0 m).toNat
  refine ⟨by omega, ?_⟩
  rw [uB, u64n_ofNat h2.1, ← List.drop_drop]
  exact h1.1
theorem tkH_rd (l : List UInt8) (σ : Rs) : Rd l σ (tkH l σ).2 (tkH l σ).1 := by
  intro h
  simp only [tkH, aS, hashS] at h ⊢
  split at h
  · rename_i he; exact absurd h he
  rename_i he
  rw [if_neg he]
  split at h
  · simp at h
  rename_i he3
  rw [if_neg he3]
  refine ⟨by omega, ?_⟩
  show _ = List.take 32 _ ++ l.drop (σ.1 + 32)
  rw [← List.drop_drop, List.take_append_drop]
theorem rdPay_rd (l : List UInt8) (σ : Rs) : Rd l σ (payB (rdPay l σ).2) (rdPay l σ).1 := by
  have h := ((((tkU_rd l σ).comp (tkU_rd l _)).comp (tkU_rd l _)).comp (tkU_rd l _)).comp (tkH_rd l _)
  have e : payB (rdPay l σ).2 = uB (tkU l σ).2 ++ uB (tkU l (tkU l σ).1).2 ++ uB (tkU l (tkU l (tkU l σ).1).1).2 ++ uB (tkU l (tkU l (tkU l (tkU l σ).1).1).1).2 ++ (tkH l (tkU l (tkU l (tkU l (tkU l σ).1).1).1).1).2 := by
    simp [payB, usB, rdPay]
  rw [e]
  exact h
theorem itP_rd (l : List UInt8) (σ : Rs) : ∀ n, Rd l σ ((itP l σ n).2.flatMap payB) (itP l σ n).1
  | 0 => Rd.refl l σ
  | n + 1 => by
    have h := (itP_rd l σ n).comp (rdPay_rd l _)
    have e : (itP l σ (n + 1)).2.flatMap payB = (itP l σ n).2.flatMap payB ++ payB (rdPay l (itP l σ n).1).2 := by simp [itP]
    rw [e]
    exact h
theorem itK_rd (l : List UInt8) (σ : Rs) : ∀ n, Rd l σ (usB (itK l σ n).2) (itK l σ n).1
  | 0 => Rd.refl l σ
  | n + 1 => by
    have h := (itK_rd l σ n).comp (tkU_rd l _)
    have e : usB (itK l σ (n + 1)).2 = usB (itK l σ n).2 ++ uB (tkU l (itK l σ n).1).2 := by simp [itK, usB]
    rw [e]
    exact h
theorem rdHol_rd {l : List UInt8} {σ : Rs} (hp : σ.1 ≤ l.length) : Rd l σ (holB (rdHol l σ).2) (rdHol l σ).1 := by
  have h := (((tkU_rd l σ).comp (tkU_rd l _)).comp (tkN_rd l 16 _)).comp (itK_rd l _ (tkN l 16 (tkU l (tkU l σ).1).1).2)
  have hk := (itK_p (tkN_p (m := 16) (tkU_p (tkU_p hp).1).1).1 (tkN l 16 (tkU l (tkU l σ).1).1).2).2.1
  have e : holB (rdHol l σ).2 = uB (tkU l σ).2 ++ uB (tkU l (tkU l σ).1).2 ++ uB ((tkN l 16 (tkU l (tkU l σ).1).1).2 : Int) ++ usB (itK l (tkN l 16 (tkU l (tkU l σ).1).1).1 (tkN l 16 (tkU l (tkU l σ).1).1).2).2 := by
    simp only [holB, rdHol, hk]
    simp [usB]
  rw [e]
  exact h
theorem itH_rd {l : List UInt8} {σ : Rs} (hp : σ.1 ≤ l.length) : ∀ n, Rd l σ ((itH l σ n).2.flatMap holB) (itH l σ n).1
  | 0 => Rd.refl l σ
  | n + 1 => by
    have h := (itH_rd hp n).comp (rdHol_rd (itH_p hp n).1)
    have e : (itH l σ (n + 1)).2.flatMap holB = (itH l σ n).2.flatMap holB ++ holB (rdHol l (itH l σ n).1).2 := by simp [itH]
    rw [e]
    exact h
theorem rdSta_rd (l : List UInt8) : Rd l (0, 0) (encS (rdSta l).2) (rdSta l).1 := by
  have rA := tkU_rd l (0, 0)
  have qA := tkU_p (l := l) (σ := (0, 0)) (by simp)
  obtain ⟨A, hA⟩ : ∃ A, tkU l (0, 0) = A := ⟨_, rfl⟩
  rw [hA] at rA qA
  have rB := tkU_rd l A.1
  have qB := tkU_p qA.1
  obtain ⟨B, hB⟩ : ∃ B, tkU l A.1 = B := ⟨_, rfl⟩
  rw [hB] at rB qB
  have rC := tkU_rd l B.1
  have qC := tkU_p qB.1
  obtain ⟨C, hC⟩ : ∃ C, tkU l B.1 = C := ⟨_, rfl⟩
  rw [hC] at rC qC
  have rN := tkN_rd l 8 C.1
  have qN := tkN_p (m := 8) qC.1
  obtain ⟨N, hN⟩ : ∃ N, tkN l 8 C.1 = N := ⟨_, rfl⟩
  rw [hN] at rN qN
  have rP := itP_rd l N.1 N.2
  have qP := itP_p qN.1 N.2
  obtain ⟨P, hP⟩ : ∃ P, itP l N.1 N.2 = P := ⟨_, rfl⟩
  rw [hP] at rP qP
  have rM := tkN_rd l 8 P.1
  have qM := tkN_p (m := 8) qP.1
  obtain ⟨M, hM⟩ : ∃ M, tkN l 8 P.1 = M := ⟨_, rfl⟩
  rw [hM] at rM qM
  have rH := itH_rd qM.1 M.2
  have qH := itH_p qM.1 M.2
  obtain ⟨Z, hZ⟩ : ∃ Z, itH l M.1 M.2 = Z := ⟨_, rfl⟩
  rw [hZ] at rH qH
  have hrs : rdSta l = (Z.1, ⟨A.2, B.2, C.2, P.2, Z.2⟩) := by simp only [rdSta, hA, hB, hC, hN, hP, hM, hZ]
  have e : encS ⟨A.2, B.2, C.2, P.2, Z.2⟩ = uB A.2 ++ uB B.2 ++ uB C.2 ++ uB (N.2 : Int) ++ P.2.flatMap payB ++ uB (M.2 : Int) ++ Z.2.flatMap holB := by
    simp [encS, usB, qP.2.1, qH.2.1]
  rw [hrs]
  show Rd l (0, 0) (encS ⟨A.2, B.2, C.2, P.2, Z.2⟩) Z.1
  rw [e]
  exact (((((rA.comp rB).comp rC).comp rN).comp rP).comp rM).comp rH
/-- What is read without an error is told by the same bytes. -/
theorem decS_enc {l : List UInt8} (h : (decS l).2 = 0) : encS (decS l).1 = l := by
  unfold decS at h ⊢
  split at h
  · simp at h
  rename_i hn
  rw [if_neg hn]
  have h1 := rdSta_p l
  have h2 := (rdSta_rd l (by omega)).2
  rw [List.drop_eq_nil_of_le (i := (rdSta l).1.1) (by omega), List.append_nil] at h2
  exact h2.symm

end Go.Proofs.YtpohjnhlhfbnaaaDoor

namespace Go.Proofs.YtpohjnhlhfbnaaaDoor
open Go Go.EW
set_option linter.unusedSimpArgs false
set_option linter.unusedVariables false

@[simp] def l_take_1 (_ : Unit) : List EOp := [⟨0, (some 1), none, (.q (.mov (.k (.int .i64 0)))), []⟩]
@[simp] def b_take_2 (_ : Unit) : EB := reg0 (hid l_take_1) 1
@[simp] def l_take_3 (_ : Unit) : List EOp := [⟨0, (some 2), none, (.q (.ldc (.t 0))), []⟩, ⟨1, (some 3), none, (.call 47 [(.t 2), (.k (.int .u64 1125899906842624))]), []⟩, ⟨2, (some 4), none, (.q (.cnv .i64 (.t 3))), []⟩, ⟨3, (some 1), none, (.q (.mov (.t 4))), []⟩]
@[simp] def b_take_4 (_ : Unit) : EB := reg0 (hid l_take_3) 4
@[simp] def b_take_5 (_ : Unit) : EB := .seq (hid b_take_4) .ret
@[simp] def b_take_6 (_ : Unit) : EB := .seq (hid b_take_2) (hid b_take_5)
def c_take : EB × List QOp × Nat := ((hid b_take_6), [(.mov (.t 1))], 5)
theorem k_take : cfun Tryd.prog 46 = some c_take := by kernel_rfl

@[simp] def l_Decode_1 (_ : Unit) : List EOp := [⟨0, (some 2), none, (.q (.alloc 32 [(.int .i64 0), (.int .i64 0), (.int .i64 0), (.slice none 0 0), (.slice none 0 0)])), []⟩, ⟨1, (some 3), none, (.q (.mov (.k .nilIface))), []⟩]
@[simp] def b_Decode_2 (_ : Unit) : EB := reg0 (hid l_Decode_1) 2
@[simp] def l_Decode_3 (_ : Unit) : List EOp := [⟨0, (some 8), none, (.q (.mov (.t 0))), []⟩, ⟨1, (some 9), none, (.call 45 [(.t 8)]), []⟩, ⟨2, (some 4), none, (.q (.alloc 83 [(.pointer none)])), []⟩, ⟨3, none, none, (.sto 1 (.t 4) (.t 9)), []⟩]
@[simp] def b_Decode_4 (_ : Unit) : EB := reg0 (hid l_Decode_3) 4
@[simp] def l_Decode_5 (_ : Unit) : List EOp := [⟨0, (some 10), none, (.q (.mkf 46 [(.t 4)])), []⟩, ⟨1, (some 5), none, (.q (.mov (.t 10))), []⟩]
@[simp] def b_Decode_6 (_ : Unit) : EB := reg0 (hid l_Decode_5) 2
@[simp] def l_Decode_8 (_ : Unit) : List EOp := [⟨6, (some 17), none, (.q (.build [(.int .i64 0), (.int .i64 0)] [(0, 1, (.t 14)), (1, 1, (.t 16))])), []⟩, ⟨7, (some 18), none, (.q (.build [(.int .i64 0), (.int .i64 0), (.int .i64 0), (.slice none 0 0), (.slice none 0 0)] [(0, 1, (.t 12)), (1, 2, (.t 17))])), []⟩, ⟨8, (some 6), none, (.q (.alloc 32 [(.int .i64 0), (.int .i64 0), (.int .i64 0), (.slice none 0 0), (.slice none 0 0)])), []⟩, ⟨9, none, none, (.fz (.sto 5 (.t 6) (.t 18))), []⟩]
@[simp] def l_Decode_7 (_ : Unit) : List EOp := ⟨0, (some 11), none, (.q (.mov (.t 5))), []⟩ :: ⟨1, (some 12), none, (.clo (.t 11) []), []⟩ :: ⟨2, (some 13), none, (.q (.mov (.t 5))), []⟩ :: ⟨3, (some 14), none, (.clo (.t 13) []), []⟩ :: ⟨4, (some 15), none, (.q (.mov (.t 5))), []⟩ :: ⟨5, (some 16), none, (.clo (.t 15) []), []⟩ :: hid l_Decode_8
@[simp] def b_Decode_9 (_ : Unit) : EB := reg0 (hid l_Decode_7) 10
@[simp] def l_Decode_10 (_ : Unit) : List EOp := [⟨0, (some 19), none, (.q (.ldc (.t 4))), []⟩, ⟨1, (some 20), none, (.call 48 [(.t 19), (.k (.int .i64 8))]), []⟩, ⟨2, (some 21), none, (.q (.mov (.k (.int .i64 0)))), []⟩]
@[simp] def b_Decode_11 (_ : Unit) : EB := reg0 (hid l_Decode_10) 3
@[simp] def l_Decode_12 (_ : Unit) : List EOp := [⟨0, (some 22), none, (.q (.bin .lss (.t 21) (.t 20))), []⟩]
@[simp] def b_Decode_13 (_ : Unit) : EB := reg0 (hid l_Decode_12) 1
@[simp] def b_Decode_14 (_ : Unit) : EB := .cond (.t 22) .skip (.exit 0)
@[simp] def l_Decode_17 (_ : Unit) : List EOp := [⟨12, (some 35), none, (.q (.build (([(.int .i64 0), (.int .i64 0), (.int .i64 0), (.int .i64 0)] : List Value) ++ zU8) [(0, 1, (.t 26)), (1, 1, (.t 28)), (2, 1, (.t 30)), (3, 1, (.t 32)), (4, 32, (.t 34))])), []⟩, ⟨13, (some 36), none, (.q (.bsl 36 (([(.int .i64 0), (.int .i64 0), (.int .i64 0), (.int .i64 0)] : List Value) ++ zU8) 1 [(0, (.t 35))])), []⟩, ⟨14, (some 37), none, (.app 61 36 64 (.t 24) (.t 36)), []⟩, ⟨15, (some 38), none, (.q (.fad 3 (.t 6))), []⟩, ⟨16, none, none, (.fz (.sto 1 (.t 38) (.t 37))), []⟩]
@[simp] def l_Decode_16 (_ : Unit) : List EOp := ⟨10, (some 33), none, (.q (.ldc (.t 4))), []⟩ :: ⟨3, (some 26), none, (.clo (.t 25) []), [0, 1, 4, 6, 8, 10]⟩ :: ⟨5, (some 28), none, (.clo (.t 27) []), [0, 1, 6, 8, 10]⟩ :: ⟨7, (some 30), none, (.clo (.t 29) []), [0, 1, 8, 10]⟩ :: ⟨9, (some 32), none, (.clo (.t 31) []), [0, 1, 10]⟩ :: ⟨11, (some 34), none, (.call 49 [(.t 33)]), [0, 1]⟩ :: hid l_Decode_17
@[simp] def l_Decode_15 (_ : Unit) : List EOp := ⟨0, (some 23), none, (.q (.fad 3 (.t 6))), []⟩ :: ⟨1, (some 24), none, (.q (.ldc (.t 23))), []⟩ :: ⟨2, (some 25), none, (.q (.mov (.t 5))), []⟩ :: ⟨4, (some 27), none, (.q (.mov (.t 5))), []⟩ :: ⟨6, (some 29), none, (.q (.mov (.t 5))), []⟩ :: ⟨8, (some 31), none, (.q (.mov (.t 5))), []⟩ :: hid l_Decode_16
@[simp] def b_Decode_18 (_ : Unit) : EB := reg1 (hid l_Decode_15) 17
@[simp] def b_Decode_19 (_ : Unit) : EB := .block 1 (hid b_Decode_18)
@[simp] def l_Decode_20 (_ : Unit) : List EOp := [⟨0, (some 39), none, (.q (.bin .add (.t 21) (.k (.int .i64 1)))), []⟩, ⟨1, (some 21), none, (.q (.mov (.t 39))), []⟩]
@[simp] def b_Decode_21 (_ : Unit) : EB := reg0 (hid l_Decode_20) 2
@[simp] def b_Decode_22 (_ : Unit) : EB := .seq (hid b_Decode_19) (hid b_Decode_21)
@[simp] def b_Decode_23 (_ : Unit) : EB := .seq (hid b_Decode_14) (hid b_Decode_22)
@[simp] def b_Decode_24 (_ : Unit) : EB := .seq (hid b_Decode_13) (hid b_Decode_23)
@[simp] def b_Decode_25 (_ : Unit) : EB := .loop (hid b_Decode_24)
@[simp] def b_Decode_26 (_ : Unit) : EB := .block 0 (hid b_Decode_25)
@[simp] def b_Decode_27 (_ : Unit) : EB := .seq (hid b_Decode_11) (hid b_Decode_26)
@[simp] def l_Decode_28 (_ : Unit) : List EOp := [⟨0, (some 40), none, (.q (.ldc (.t 4))), []⟩, ⟨1, (some 41), none, (.call 48 [(.t 40), (.k (.int .i64 8))]), []⟩, ⟨2, (some 42), none, (.q (.mov (.k (.int .i64 0)))), []⟩]
@[simp] def b_Decode_29 (_ : Unit) : EB := reg0 (hid l_Decode_28) 3
@[simp] def l_Decode_30 (_ : Unit) : List EOp := [⟨0, (some 43), none, (.q (.bin .lss (.t 42) (.t 41))), []⟩]
@[simp] def b_Decode_31 (_ : Unit) : EB := reg0 (hid l_Decode_30) 1
@[simp] def b_Decode_32 (_ : Unit) : EB := .cond (.t 43) .skip (.exit 2)
@[simp] def l_Decode_34 (_ : Unit) : List EOp := [⟨6, none, none, (.fz (.sto 3 (.t 7) (.t 48))), []⟩]
@[simp] def l_Decode_33 (_ : Unit) : List EOp := ⟨0, (some 44), none, (.q (.mov (.t 5))), []⟩ :: ⟨1, (some 45), none, (.clo (.t 44) []), []⟩ :: ⟨2, (some 46), none, (.q (.mov (.t 5))), []⟩ :: ⟨3, (some 47), none, (.clo (.t 46) []), []⟩ :: ⟨4, (some 48), none, (.q (.build [(.int .i64 0), (.int .i64 0), (.slice none 0 0)] [(0, 1, (.t 45)), (1, 1, (.t 47))])), []⟩ :: ⟨5, (some 7), none, (.q (.alloc 65 [(.int .i64 0), (.int .i64 0), (.slice none 0 0)])), []⟩ :: hid l_Decode_34
@[simp] def b_Decode_35 (_ : Unit) : EB := reg0 (hid l_Decode_33) 7
@[simp] def l_Decode_36 (_ : Unit) : List EOp := [⟨0, (some 49), none, (.q (.ldc (.t 4))), []⟩, ⟨1, (some 50), none, (.call 48 [(.t 49), (.k (.int .i64 16))]), []⟩, ⟨2, (some 51), none, (.q (.mov (.k (.int .i64 0)))), []⟩]
@[simp] def b_Decode_37 (_ : Unit) : EB := reg0 (hid l_Decode_36) 3
@[simp] def l_Decode_38 (_ : Unit) : List EOp := [⟨0, (some 52), none, (.q (.bin .lss (.t 51) (.t 50))), []⟩]
@[simp] def b_Decode_39 (_ : Unit) : EB := reg0 (hid l_Decode_38) 1
@[simp] def b_Decode_40 (_ : Unit) : EB := .cond (.t 52) .skip (.exit 4)
@[simp] def l_Decode_42 (_ : Unit) : List EOp := [⟨6, (some 59), none, (.q (.fad 2 (.t 7))), []⟩, ⟨7, none, none, (.fz (.sto 1 (.t 59) (.t 58))), []⟩]
@[simp] def l_Decode_41 (_ : Unit) : List EOp := ⟨0, (some 53), none, (.q (.fad 2 (.t 7))), []⟩ :: ⟨1, (some 54), none, (.q (.ldc (.t 53))), []⟩ :: ⟨2, (some 55), none, (.q (.mov (.t 5))), []⟩ :: ⟨3, (some 56), none, (.clo (.t 55) []), [0, 1]⟩ :: ⟨4, (some 57), none, (.q (.bsl 1 [(.int .i64 0)] 1 [(0, (.t 56))])), []⟩ :: ⟨5, (some 58), none, (.app 3 1 8 (.t 54) (.t 57)), []⟩ :: hid l_Decode_42
@[simp] def b_Decode_43 (_ : Unit) : EB := reg1 (hid l_Decode_41) 8
@[simp] def b_Decode_44 (_ : Unit) : EB := .block 5 (hid b_Decode_43)
@[simp] def l_Decode_45 (_ : Unit) : List EOp := [⟨0, (some 60), none, (.q (.bin .add (.t 51) (.k (.int .i64 1)))), []⟩, ⟨1, (some 51), none, (.q (.mov (.t 60))), []⟩]
@[simp] def b_Decode_46 (_ : Unit) : EB := reg0 (hid l_Decode_45) 2
@[simp] def b_Decode_47 (_ : Unit) : EB := .seq (hid b_Decode_44) (hid b_Decode_46)
@[simp] def b_Decode_48 (_ : Unit) : EB := .seq (hid b_Decode_40) (hid b_Decode_47)
@[simp] def b_Decode_49 (_ : Unit) : EB := .seq (hid b_Decode_39) (hid b_Decode_48)
@[simp] def b_Decode_50 (_ : Unit) : EB := .loop (hid b_Decode_49)
@[simp] def b_Decode_51 (_ : Unit) : EB := .block 4 (hid b_Decode_50)
@[simp] def b_Decode_52 (_ : Unit) : EB := .seq (hid b_Decode_37) (hid b_Decode_51)
@[simp] def l_Decode_54 (_ : Unit) : List EOp := [⟨6, none, none, (.fz (.sto 1 (.t 66) (.t 65))), []⟩]
@[simp] def l_Decode_53 (_ : Unit) : List EOp := ⟨0, (some 61), none, (.q (.fad 4 (.t 6))), []⟩ :: ⟨1, (some 62), none, (.q (.ldc (.t 61))), []⟩ :: ⟨2, (some 63), none, (.q (.lda 3 (.t 7))), []⟩ :: ⟨3, (some 64), none, (.fz (.q (.bsl 3 [(.int .i64 0), (.int .i64 0), (.slice none 0 0)] 1 [(0, (.t 63))]))), []⟩ :: ⟨4, (some 65), none, (.app 65 3 40 (.t 62) (.t 64)), []⟩ :: ⟨5, (some 66), none, (.q (.fad 4 (.t 6))), []⟩ :: hid l_Decode_54
@[simp] def b_Decode_55 (_ : Unit) : EB := reg0 (hid l_Decode_53) 7
@[simp] def b_Decode_56 (_ : Unit) : EB := .seq (hid b_Decode_52) (hid b_Decode_55)
@[simp] def b_Decode_57 (_ : Unit) : EB := .seq (hid b_Decode_35) (hid b_Decode_56)
@[simp] def b_Decode_58 (_ : Unit) : EB := .block 3 (hid b_Decode_57)
@[simp] def l_Decode_59 (_ : Unit) : List EOp := [⟨0, (some 67), none, (.q (.bin .add (.t 42) (.k (.int .i64 1)))), []⟩, ⟨1, (some 42), none, (.q (.mov (.t 67))), []⟩]
@[simp] def b_Decode_60 (_ : Unit) : EB := reg0 (hid l_Decode_59) 2
@[simp] def b_Decode_61 (_ : Unit) : EB := .seq (hid b_Decode_58) (hid b_Decode_60)
@[simp] def b_Decode_62 (_ : Unit) : EB := .seq (hid b_Decode_32) (hid b_Decode_61)
@[simp] def b_Decode_63 (_ : Unit) : EB := .seq (hid b_Decode_31) (hid b_Decode_62)
@[simp] def b_Decode_64 (_ : Unit) : EB := .loop (hid b_Decode_63)
@[simp] def b_Decode_65 (_ : Unit) : EB := .block 2 (hid b_Decode_64)
@[simp] def b_Decode_66 (_ : Unit) : EB := .seq (hid b_Decode_29) (hid b_Decode_65)
@[simp] def l_Decode_68 (_ : Unit) : List EOp := [⟨6, (some 74), (some (71, false)), (.q (.un .not (.t 73))), []⟩, ⟨7, (some 75), none, (.q (.pick (.t 71) (.k (.bool true)) (.t 74))), []⟩]
@[simp] def l_Decode_67 (_ : Unit) : List EOp := ⟨0, (some 68), none, (.q (.ldc (.t 4))), []⟩ :: ⟨1, (some 69), none, (.call 50 [(.t 68)]), []⟩ :: ⟨2, (some 70), none, (.q (.eqi true (.t 69))), []⟩ :: ⟨3, (some 71), none, (.q (.mov (.t 70))), []⟩ :: ⟨4, (some 72), (some (71, false)), (.q (.lda 5 (.t 6))), []⟩ :: ⟨5, (some 73), (some (71, false)), (.call 43 [(.t 72)]), []⟩ :: hid l_Decode_68
@[simp] def b_Decode_69 (_ : Unit) : EB := reg0 (hid l_Decode_67) 8
@[simp] def l_Decode_70 (_ : Unit) : List EOp := [⟨0, (some 76), none, (.q (.build [(.int .i64 0), (.int .i64 0), (.int .i64 0), (.slice none 0 0), (.slice none 0 0)] [])), []⟩, ⟨1, (some 77), none, (.q (.mki 79 (.k (.int .i64 3)))), []⟩, ⟨2, none, none, (.fz (.sto 5 (.t 2) (.t 76))), []⟩, ⟨3, (some 3), none, (.q (.mov (.t 77))), []⟩]
@[simp] def b_Decode_71 (_ : Unit) : EB := reg0 (hid l_Decode_70) 4
@[simp] def b_Decode_72 (_ : Unit) : EB := .seq (hid b_Decode_71) .ret
@[simp] def b_Decode_73 (_ : Unit) : EB := .cond (.t 75) (hid b_Decode_72) .skip
@[simp] def b_Decode_74 (_ : Unit) : EB := .seq (hid b_Decode_69) (hid b_Decode_73)
@[simp] def l_Decode_75 (_ : Unit) : List EOp := [⟨0, (some 78), none, (.q (.lda 5 (.t 6))), []⟩, ⟨1, none, none, (.fz (.sto 5 (.t 2) (.t 78))), []⟩, ⟨2, (some 3), none, (.q (.mov (.k .nilIface))), []⟩]
@[simp] def b_Decode_76 (_ : Unit) : EB := reg0 (hid l_Decode_75) 3
@[simp] def b_Decode_77 (_ : Unit) : EB := .seq (hid b_Decode_76) .ret
@[simp] def b_Decode_78 (_ : Unit) : EB := .seq (hid b_Decode_74) (hid b_Decode_77)
@[simp] def b_Decode_79 (_ : Unit) : EB := .seq (hid b_Decode_66) (hid b_Decode_78)
@[simp] def b_Decode_80 (_ : Unit) : EB := .seq (hid b_Decode_27) (hid b_Decode_79)
@[simp] def b_Decode_81 (_ : Unit) : EB := .seq (hid b_Decode_9) (hid b_Decode_80)
@[simp] def b_Decode_82 (_ : Unit) : EB := .seq (hid b_Decode_6) (hid b_Decode_81)
@[simp] def b_Decode_83 (_ : Unit) : EB := .seq (hid b_Decode_4) (hid b_Decode_82)
@[simp] def b_Decode_84 (_ : Unit) : EB := .seq (hid b_Decode_2) (hid b_Decode_83)
def c_Decode : EB × List QOp × Nat := ((hid b_Decode_84), [(.lda 5 (.t 2)), (.mov (.t 3))], 79)
theorem k_Decode : cfun Tryd.prog 20 = some c_Decode := by kernel_rfl


/-- A call that is handed the objects ids; each of them is not looked at out of order, or left as it is. -/
theorem callM {P : Program} {f : FuncId} {args args' : List EV} {H : Nat → Option EO} {base : Nat} {ok : Nat → Prop} {K : EV → (Nat → Option EO) → Go.EW.Tok → Prop} {post : EV → List (Option EO) → Prop} (ids : List Nat) {Hc : List EO}
    (h : ECalls P f args' Hc post) (hcon : conArgs H ids args = some args') (hin : objsIn H ids ids = some Hc) (hnd : ids.Nodup) (hre : ∀ i ∈ ids, i ∈ reach H (args.flatMap refsV)) (hok : ∀ i ∈ ids, ok i ∨ ∀ y H', post y H' → after H ids base H' i = H i)
    (hk : ∀ y H', post y H' → (args.flatMap (fzV ids) = [] ∨ (noSlV y = true ∧ ∀ x, some x ∈ H' → noSlO x = true)) ∧ H'.length ≤ ids.length + 16 ∧ K (renV (rnm ids base) y) (after H ids base H') Go.EW.Tok.on) : ECall P f args H base ok K :=
  ⟨ids, args', Hc, post, hcon, hin, hnd, hre, hok, h, fun y H' hp => ⟨⟨(hk y H' hp).1, (hk y H' hp).2.1⟩, (hk y H' hp).2.2⟩⟩

/-- A variable that holds a reader. -/
def TO (r : Nat) : EO := .box 83 [.ptr r 0]
def TkV (o : Nat) : EV := .v (.c (.clo 46 [(o, 0)]))
theorem take_body : bodyOK Tryd.prog 46 = true := by kernel_rfl

theorem take_ok (l : List UInt8) (σ : Rs) (hp : σ.1 ≤ l.length) (hl : l.length ≤ 1000000000) :
    ECalls Tryd.prog 46 [Ptr 0] [TO 1, RdO l σ.1 σ.2] fun y H' => H' = [some (TO 1), some (RdO l (tkU l σ).1.1 (tkU l σ).1.2)] ∧ y = I .i64 (tkU l σ).2 := by
  have h0 := tkU_p hp
  have w0 : IntKind.i64.wrap ((uS (l.drop σ.1) σ.2 1125899906842624).2.1 : Int) = (tkU l σ).2 := by
    rw [show ((uS (l.drop σ.1) σ.2 1125899906842624).2.1 : Int) = (tkU l σ).2 from rfl, wrap_i64 (by omega) (by omega)]
  refine ecalls k_take ?_
  simp [c_take, Ptr, TO]
  refine callH [1] (RdUint_all l σ.1 σ.2 1125899906842624 hp hl (by omega)) (by simp [Ptr, I, EV.lit, TO, RdO, TkV, Bs]) (by simp [Ptr, I, EV.lit, TO, RdO, TkV, Bs]) (by simp) (by simp [Ptr, I, EV.lit, TO, RdO, TkV, Bs]) (by simp [Wok]) ?_
  rintro y H' ⟨rfl, rfl⟩
  refine ⟨.inl (by simp [Ptr, I, EV.lit, TO, RdO, TkV, Bs]), le_ok rfl, ?_⟩
  simp [I, w0]
  exact fin [] (by decide) rfl rfl rfl ⟨rfl, rfl⟩

theorem RdCount_t (l : List UInt8) (m : Int) (σ : Rs) (hp : σ.1 ≤ l.length) (hl : l.length ≤ 1000000000) (hm : -9223372036854775808 ≤ m ∧ m ≤ 9223372036854775807) :
    ECalls Tryd.prog 48 [Ptr 0, I .i64 m] [RdO l σ.1 σ.2] fun y H' => H' = [some (RdO l (tkN l m σ).1.1 (tkN l m σ).1.2)] ∧ y = I .i64 (tkN l m σ).2 := RdCount_all l σ.1 σ.2 m hp hl hm

theorem RdHash_t (l : List UInt8) (σ : Rs) (hp : σ.1 ≤ l.length) (hl : l.length ≤ 1000000000) :
    ECalls Tryd.prog 49 [Ptr 0] [RdO l σ.1 σ.2] fun y H' => H' = [some (RdO l (tkH l σ).1.1 (tkH l σ).1.2)] ∧ y = Ag (tkH l σ).2 := RdHash_all l σ.1 σ.2 hp hl

set_option maxHeartbeats 4000000 in
theorem Decode_ok (l : List UInt8) (hl : l.length ≤ 100000000) : ECalls Tryd.prog 20 [Bs l] [] fun y H' => H' = [] ∧ y = SE (decS l) := by
  have hl' : l.length ≤ 1000000000 := by omega
  obtain ⟨A, hA⟩ : ∃ A, tkU l (0, 0) = A := ⟨_, rfl⟩
  have tA := take_ok l (0, 0) (by simp) hl'
  have qA := tkU_p (l := l) (σ := (0, 0)) (by simp)
  rw [hA] at tA qA
  obtain ⟨B, hB⟩ : ∃ B, tkU l A.1 = B := ⟨_, rfl⟩
  have tB := take_ok l A.1 qA.1 hl'
  have qB := tkU_p qA.1
  rw [hB] at tB qB
  obtain ⟨C, hC⟩ : ∃ C, tkU l B.1 = C := ⟨_, rfl⟩
  have tC := take_ok l B.1 qB.1 hl'
  have qC := tkU_p qB.1
  rw [hC] at tC qC
  obtain ⟨N, hN⟩ : ∃ N, tkN l 8 C.1 = N := ⟨_, rfl⟩
  have tN := RdCount_t l 8 C.1 qC.1 hl' (by omega)
  have qN := tkN_p (m := 8) qC.1
  rw [hN] at tN qN
  have qP := itP_p qN.1
  refine ecalls k_Decode ?_
  simp [c_Decode, Bs]
  refine call0 (Read_ok l) (by simp [Ptr, I, EV.lit, TO, RdO, TkV, Bs]) ?_
  rintro y H' ⟨rfl, rfl⟩
  refine ⟨.inl (by simp [Ptr, I, EV.lit, TO, RdO, TkV, Bs]), le_ok rfl, ?_⟩
  simp [Ptr, I, EV.lit, TO, RdO, TkV, Bs]
  refine ⟨take_body, ?_⟩
  refine callH [64, 48] (tA) (by simp [Ptr, I, EV.lit, TO, RdO, TkV, Bs]) (by simp [Ptr, I, EV.lit, TO, RdO, TkV, Bs]) (by simp) (by simp [Ptr, I, EV.lit, TO, RdO, TkV, Bs]) (by simp [Wok]) ?_
  rintro y H' ⟨rfl, rfl⟩
  refine ⟨.inl (by simp [Ptr, I, EV.lit, TO, RdO, TkV, Bs]), le_ok rfl, ?_⟩
  simp [Ptr, I, EV.lit, TO, RdO, TkV, Bs]
  refine ⟨take_body, ?_⟩
  refine callH [64, 48] (tB) (by simp [Ptr, I, EV.lit, TO, RdO, TkV, Bs]) (by simp [Ptr, I, EV.lit, TO, RdO, TkV, Bs]) (by simp) (by simp [Ptr, I, EV.lit, TO, RdO, TkV, Bs]) (by simp [Wok]) ?_
  rintro y H' ⟨rfl, rfl⟩
  refine ⟨.inl (by simp [Ptr, I, EV.lit, TO, RdO, TkV, Bs]), le_ok rfl, ?_⟩
  simp [Ptr, I, EV.lit, TO, RdO, TkV, Bs]
  refine ⟨take_body, ?_⟩
  refine callH [64, 48] (tC) (by simp [Ptr, I, EV.lit, TO, RdO, TkV, Bs]) (by simp [Ptr, I, EV.lit, TO, RdO, TkV, Bs]) (by simp) (by simp [Ptr, I, EV.lit, TO, RdO, TkV, Bs]) (by simp [Wok]) ?_
  rintro y H' ⟨rfl, rfl⟩
  refine ⟨.inl (by simp [Ptr, I, EV.lit, TO, RdO, TkV, Bs]), le_ok rfl, ?_⟩
  simp [Ptr, I, EV.lit, TO, RdO, TkV, Bs]
  refine callH [48] (tN) (by simp [Ptr, I, EV.lit, TO, RdO, TkV, Bs]) (by simp [Ptr, I, EV.lit, TO, RdO, TkV, Bs]) (by simp) (by simp [Ptr, I, EV.lit, TO, RdO, TkV, Bs]) (by simp [Wok]) ?_
  rintro y H' ⟨rfl, rfl⟩
  refine ⟨.inl (by simp [Ptr, I, EV.lit, TO, RdO, TkV, Bs]), le_ok rfl, ?_⟩
  simp [Ptr, I, EV.lit, TO, RdO, TkV, Bs]
  refine loopW _ (weak_nil (o := 256) (k := 3) (ty := 61) (es := 36) rfl rfl (by omega)) ?_
  refine loopW _ (weak_nil (o := 256) (k := 4) (ty := 65) (es := 3) rfl rfl (by omega)) ?_
  refine eloop (α := Nat) (fun i => i ≤ N.2) (fun i => N.2 - i)
    (fun i => [.any, .any, Ptr 0, .any, Ptr 1, TkV 1, Ptr 3, .any, .any, .any, .any, .any, .any, .any, .any, .any, .any, .any, .any, .any, I .i64 N.2, I .i64 i, .any, .any, .any, .any, .any, .any, .any, .any, .any, .any, .any, .any, .any, .any, .any, .any, .any, .any, .any, .any, .any, .any, .any, .any, .any, .any, .any, .any, .any, .any, .any, .any, .any, .any, .any, .any, .any, .any, .any, .any, .any, .any, .any, .any, .any, .any, .any, .any, .any, .any, .any, .any, .any, .any, .any, .any, .any]) (fun i => [some (.box 32 zC), some (TO 2), some (RdO l (itP l N.1 i).1.1 (itP l N.1 i).1.2), some (.box 32 (gC ⟨A.2, B.2, C.2, [], []⟩ (.row 4 i) (.row 5 0))), some (.row 61 36 (payv (itP l N.1 i).2)), some (.row 65 3 [])]) 0 [0, 64, 48, 256, 336, 337]
    (Nat.zero_le _) (by simp [Ptr, I, TkV]) (by simp [zC, gC, TO, RdO, payv, itP]) (by simp) (by simp) (by simp) ?_
  intro i hi
  have qi := qP i
  obtain ⟨S, hS⟩ : ∃ S, itP l N.1 i = S := ⟨_, rfl⟩
  rw [hS] at qi
  simp [Ptr, I, TkV, TO, RdO, zC, gC, hS]
  refine alt (fun hlt => ?_) (fun hlt => ?_)
  · obtain ⟨a, ha⟩ : ∃ a, tkU l S.1 = a := ⟨_, rfl⟩
    have ta := take_ok l S.1 qi.1 hl'
    have qa := tkU_p qi.1
    rw [ha] at ta qa
    obtain ⟨b, hb⟩ : ∃ b, tkU l a.1 = b := ⟨_, rfl⟩
    have tb := take_ok l a.1 qa.1 hl'
    have qb := tkU_p qa.1
    rw [hb] at tb qb
    obtain ⟨c, hc⟩ : ∃ c, tkU l b.1 = c := ⟨_, rfl⟩
    have tc := take_ok l b.1 qb.1 hl'
    have qc := tkU_p qb.1
    rw [hc] at tc qc
    obtain ⟨d, hd⟩ : ∃ d, tkU l c.1 = d := ⟨_, rfl⟩
    have td := take_ok l c.1 qc.1 hl'
    have qd := tkU_p qc.1
    rw [hd] at td qd
    obtain ⟨e, he⟩ : ∃ e, tkH l d.1 = e := ⟨_, rfl⟩
    have te := RdHash_t l d.1 qd.1 hl'
    have qe := tkH_p qd.1
    rw [he] at te qe
    have e1 : itP l N.1 (i + 1) = (e.1, S.2 ++ [⟨a.2, b.2, c.2, d.2, e.2⟩]) := by simp only [itP, hS, rdPay, ha, hb, hc, hd, he]
    have w2 : IntKind.i64.wrap ((i : Int) + 1) = ((i + 1 : Nat) : Int) := wrap_i64 (by omega) (by omega)
    have ht : e.2.take 32 = e.2 := List.take_of_length_le (by omega)
    simp
    refine ⟨take_body, ?_⟩
    refine callM [1, 2] (ta) (by simp [Ptr, I, EV.lit, TO, RdO, TkV, Bs]) (by simp [Ptr, I, EV.lit, TO, RdO, TkV, Bs]) (by simp) (by simp [Ptr, I, EV.lit, TO, RdO, TkV, Bs]) (fun i hi => by
        rcases (show i = 1 ∨ i = 2 by simpa using hi) with rfl | rfl
        · exact .inr (fun y H' h => by obtain ⟨rfl, rfl⟩ := h; simp [Ptr, I, EV.lit, TO, RdO, TkV, Bs])
        · exact .inl (by simp [Wok])) ?_
    rintro y H' ⟨rfl, rfl⟩
    refine ⟨.inl (by simp [Ptr, I, EV.lit, TO, RdO, TkV, Bs]), le_ok rfl, ?_⟩
    simp [Ptr, I, EV.lit, TO, RdO, TkV, Bs]
    refine ⟨take_body, ?_⟩
    refine callM [1, 2] (tb) (by simp [Ptr, I, EV.lit, TO, RdO, TkV, Bs]) (by simp [Ptr, I, EV.lit, TO, RdO, TkV, Bs]) (by simp) (by simp [Ptr, I, EV.lit, TO, RdO, TkV, Bs]) (fun i hi => by
        rcases (show i = 1 ∨ i = 2 by simpa using hi) with rfl | rfl
        · exact .inr (fun y H' h => by obtain ⟨rfl, rfl⟩ := h; simp [Ptr, I, EV.lit, TO, RdO, TkV, Bs])
        · exact .inl (by simp [Wok])) ?_
    rintro y H' ⟨rfl, rfl⟩
    refine ⟨.inl (by simp [Ptr, I, EV.lit, TO, RdO, TkV, Bs]), le_ok rfl, ?_⟩
    simp [Ptr, I, EV.lit, TO, RdO, TkV, Bs]
    refine ⟨take_body, ?_⟩
    refine callM [1, 2] (tc) (by simp [Ptr, I, EV.lit, TO, RdO, TkV, Bs]) (by simp [Ptr, I, EV.lit, TO, RdO, TkV, Bs]) (by simp) (by simp [Ptr, I, EV.lit, TO, RdO, TkV, Bs]) (fun i hi => by
        rcases (show i = 1 ∨ i = 2 by simpa using hi) with rfl | rfl
        · exact .inr (fun y H' h => by obtain ⟨rfl, rfl⟩ := h; simp [Ptr, I, EV.lit, TO, RdO, TkV, Bs])
        · exact .inl (by simp [Wok])) ?_
    rintro y H' ⟨rfl, rfl⟩
    refine ⟨.inl (by simp [Ptr, I, EV.lit, TO, RdO, TkV, Bs]), le_ok rfl, ?_⟩
    simp [Ptr, I, EV.lit, TO, RdO, TkV, Bs]
    refine ⟨take_body, ?_⟩
    refine callM [1, 2] (td) (by simp [Ptr, I, EV.lit, TO, RdO, TkV, Bs]) (by simp [Ptr, I, EV.lit, TO, RdO, TkV, Bs]) (by simp) (by simp [Ptr, I, EV.lit, TO, RdO, TkV, Bs]) (fun i hi => by
        rcases (show i = 1 ∨ i = 2 by simpa using hi) with rfl | rfl
        · exact .inr (fun y H' h => by obtain ⟨rfl, rfl⟩ := h; simp [Ptr, I, EV.lit, TO, RdO, TkV, Bs])
        · exact .inl (by simp [Wok])) ?_
    rintro y H' ⟨rfl, rfl⟩
    refine ⟨.inl (by simp [Ptr, I, EV.lit, TO, RdO, TkV, Bs]), le_ok rfl, ?_⟩
    simp [Ptr, I, EV.lit, TO, RdO, TkV, Bs]
    refine callH [2] (te) (by simp [Ptr, I, EV.lit, TO, RdO, TkV, Bs]) (by simp [Ptr, I, EV.lit, TO, RdO, TkV, Bs]) (by simp) (by simp [Ptr, I, EV.lit, TO, RdO, TkV, Bs]) (by simp [Wok]) ?_
    rintro y H' ⟨rfl, rfl⟩
    refine ⟨.inl (by simp [Ptr, I, EV.lit, TO, RdO, TkV, Bs]), le_ok rfl, ?_⟩
    have e2 : payv (S.2 ++ [⟨a.2, b.2, c.2, d.2, e.2⟩]) = payv S.2 ++ [payF ⟨a.2, b.2, c.2, d.2, e.2⟩] := by simp [payv]
    have hl32 := qe.2
    have hS2 := qi.2.1
    have hcn : EW.hc ([] : List UInt8) = [] := rfl
    simp [RdO, Ag, hl32, ht, hcn, hS2, w2, -Int.natCast_add]
    refine ⟨by omega, ?_⟩
    exact round (i + 1) [0, 1, 2, 3, 246, 5] (by omega) (by omega) (by simp) (by simp [e1, e2, payF, zC, gC, TO, RdO]) (by simp) (by simp) (by simp)
  have hil : i = N.2 := by omega
  subst hil
  obtain ⟨M, hM⟩ : ∃ M, tkN l 8 S.1 = M := ⟨_, rfl⟩
  have tM := RdCount_t l 8 S.1 qi.1 hl' (by omega)
  have qM := tkN_p (m := 8) qi.1
  rw [hM] at tM qM
  have qH := itH_p qM.1
  have hrs : rdSta l = ((itH l M.1 M.2).1, ⟨A.2, B.2, C.2, S.2, (itH l M.1 M.2).2⟩) := by simp only [rdSta, hA, hB, hC, hN, hS, hM]
  have hS2 := qi.2.1
  simp
  refine callH [2] (tM) (by simp [Ptr, I, EV.lit, TO, RdO, TkV, Bs]) (by simp [Ptr, I, EV.lit, TO, RdO, TkV, Bs]) (by simp) (by simp [Ptr, I, EV.lit, TO, RdO, TkV, Bs]) (by simp [Wok]) ?_
  rintro y H' ⟨rfl, rfl⟩
  refine ⟨.inl (by simp [Ptr, I, EV.lit, TO, RdO, TkV, Bs]), le_ok rfl, ?_⟩
  simp [Ptr, I, EV.lit, TO, RdO, TkV, Bs]
  refine eloop (α := Nat) (fun j => j ≤ M.2) (fun j => M.2 - j)
    (fun j => [.any, .any, Ptr 0, .any, Ptr 1, TkV 1, Ptr 3, .any, .any, .any, .any, .any, .any, .any, .any, .any, .any, .any, .any, .any, .any, .any, .any, .any, .any, .any, .any, .any, .any, .any, .any, .any, .any, .any, .any, .any, .any, .any, .any, .any, .any, I .i64 M.2, I .i64 j, .any, .any, .any, .any, .any, .any, .any, .any, .any, .any, .any, .any, .any, .any, .any, .any, .any, .any, .any, .any, .any, .any, .any, .any, .any, .any, .any, .any, .any, .any, .any, .any, .any, .any, .any, .any]) (fun j => [some (.box 32 zC), some (TO 2), some (RdO l (itH l M.1 j).1.1 (itH l M.1 j).1.2), some (.box 32 (gC ⟨A.2, B.2, C.2, [], []⟩ (.row 4 N.2) (.row 5 j))), some (.row 61 36 (payv S.2)), some (.row 65 3 (holv (itH l M.1 j).2))]) 0 [0, 1, 2, 3, 4, 5]
    (Nat.zero_le _) (by simp [Ptr, I, TkV]) (by simp [zC, gC, TO, RdO, holv, itH]) (by simp) (by simp) (by simp) ?_
  intro j hj
  have qj := qH j
  obtain ⟨Z, hZ⟩ : ∃ Z, itH l M.1 j = Z := ⟨_, rfl⟩
  rw [hZ] at qj
  have hZ2 := qj.2.1
  simp [Ptr, I, TkV, TO, RdO, zC, gC, hZ]
  refine alt (fun hlt => ?_) (fun hlt => ?_)
  · obtain ⟨a, ha⟩ : ∃ a, tkU l Z.1 = a := ⟨_, rfl⟩
    have ta := take_ok l Z.1 qj.1 hl'
    have qa := tkU_p qj.1
    rw [ha] at ta qa
    obtain ⟨b, hb⟩ : ∃ b, tkU l a.1 = b := ⟨_, rfl⟩
    have tb := take_ok l a.1 qa.1 hl'
    have qb := tkU_p qa.1
    rw [hb] at tb qb
    obtain ⟨c, hc⟩ : ∃ c, tkN l 16 b.1 = c := ⟨_, rfl⟩
    have tc := RdCount_t l 16 b.1 qb.1 hl' (by omega)
    have qc := tkN_p (m := 16) qb.1
    rw [hc] at tc qc
    have qK := itK_p qc.1
    have w2 : IntKind.i64.wrap ((j : Int) + 1) = ((j + 1 : Nat) : Int) := wrap_i64 (by omega) (by omega)
    simp
    refine ⟨take_body, ?_⟩
    refine callM [1, 2] (ta) (by simp [Ptr, I, EV.lit, TO, RdO, TkV, Bs]) (by simp [Ptr, I, EV.lit, TO, RdO, TkV, Bs]) (by simp) (by simp [Ptr, I, EV.lit, TO, RdO, TkV, Bs]) (fun i hi => by
        rcases (show i = 1 ∨ i = 2 by simpa using hi) with rfl | rfl
        · exact .inr (fun y H' h => by obtain ⟨rfl, rfl⟩ := h; simp [Ptr, I, EV.lit, TO, RdO, TkV, Bs])
        · exact .inl (by simp [Wok])) ?_
    rintro y H' ⟨rfl, rfl⟩
    refine ⟨.inl (by simp [Ptr, I, EV.lit, TO, RdO, TkV, Bs]), le_ok rfl, ?_⟩
    simp [Ptr, I, EV.lit, TO, RdO, TkV, Bs]
    refine ⟨take_body, ?_⟩
    refine callM [1, 2] (tb) (by simp [Ptr, I, EV.lit, TO, RdO, TkV, Bs]) (by simp [Ptr, I, EV.lit, TO, RdO, TkV, Bs]) (by simp) (by simp [Ptr, I, EV.lit, TO, RdO, TkV, Bs]) (fun i hi => by
        rcases (show i = 1 ∨ i = 2 by simpa using hi) with rfl | rfl
        · exact .inr (fun y H' h => by obtain ⟨rfl, rfl⟩ := h; simp [Ptr, I, EV.lit, TO, RdO, TkV, Bs])
        · exact .inl (by simp [Wok])) ?_
    rintro y H' ⟨rfl, rfl⟩
    refine ⟨.inl (by simp [Ptr, I, EV.lit, TO, RdO, TkV, Bs]), le_ok rfl, ?_⟩
    simp [Ptr, I, EV.lit, TO, RdO, TkV, Bs]
    refine callH [2] (tc) (by simp [Ptr, I, EV.lit, TO, RdO, TkV, Bs]) (by simp [Ptr, I, EV.lit, TO, RdO, TkV, Bs]) (by simp) (by simp [Ptr, I, EV.lit, TO, RdO, TkV, Bs]) (by simp [Wok]) ?_
    rintro y H' ⟨rfl, rfl⟩
    refine ⟨.inl (by simp [Ptr, I, EV.lit, TO, RdO, TkV, Bs]), le_ok rfl, ?_⟩
    simp [Ptr, I, EV.lit, TO, RdO, TkV, Bs]
    refine loopW _ (weak_nil (o := 102) (k := 2) (ty := 3) (es := 1) rfl rfl (by omega)) ?_
    refine eloop (α := Nat) (fun k => k ≤ c.2) (fun k => c.2 - k)
      (fun k => [.any, .any, Ptr 0, .any, Ptr 1, TkV 1, Ptr 3, Ptr 6, .any, .any, .any, .any, .any, .any, .any, .any, .any, .any, .any, .any, .any, .any, .any, .any, .any, .any, .any, .any, .any, .any, .any, .any, .any, .any, .any, .any, .any, .any, .any, .any, .any, I .i64 M.2, I .i64 j, .any, .any, .any, .any, .any, .any, .any, I .i64 c.2, I .i64 k, .any, .any, .any, .any, .any, .any, .any, .any, .any, .any, .any, .any, .any, .any, .any, .any, .any, .any, .any, .any, .any, .any, .any, .any, .any, .any, .any]) (fun k => [some (.box 32 zC), some (TO 2), some (RdO l (itK l c.1 k).1.1 (itK l c.1 k).1.2), some (.box 32 (gC ⟨A.2, B.2, C.2, [], []⟩ (.row 4 N.2) (.row 5 j))), some (.row 61 36 (payv S.2)), some (.row 65 3 (holv Z.2)), some (.box 65 [.fz (.lit (.int .i64 a.2)), .fz (.lit (.int .i64 b.2)), .row 7 k]), some (.row 3 1 (intv (itK l c.1 k).2))]) 0 [0, 1, 2, 3, 4, 5, 102, 182]
      (Nat.zero_le _) (by simp [Ptr, I, TkV]) (by simp [zC, gC, TO, RdO, intv, itK, hZ2]) (by simp) (by simp) (by simp) ?_
    intro k hk
    have qk := qK k
    obtain ⟨Y, hY⟩ : ∃ Y, itK l c.1 k = Y := ⟨_, rfl⟩
    rw [hY] at qk
    have hY2 := qk.2.1
    simp [Ptr, I, TkV, TO, RdO, zC, gC, hY]
    refine alt (fun hlk => ?_) (fun hlk => ?_)
    · obtain ⟨x, hx⟩ : ∃ x, tkU l Y.1 = x := ⟨_, rfl⟩
      have tx := take_ok l Y.1 qk.1 hl'
      rw [hx] at tx
      have e1 : itK l c.1 (k + 1) = (x.1, Y.2 ++ [x.2]) := by simp only [itK, hY, hx]
      have e2 : intv (Y.2 ++ [x.2]) = intv Y.2 ++ [[.lit (.int .i64 x.2)]] := by simp [intv]
      have w3 : IntKind.i64.wrap ((k : Int) + 1) = ((k + 1 : Nat) : Int) := wrap_i64 (by omega) (by omega)
      simp
      refine ⟨take_body, ?_⟩
      refine callM [1, 2] (tx) (by simp [Ptr, I, EV.lit, TO, RdO, TkV, Bs]) (by simp [Ptr, I, EV.lit, TO, RdO, TkV, Bs]) (by simp) (by simp [Ptr, I, EV.lit, TO, RdO, TkV, Bs]) (fun i hi => by
          rcases (show i = 1 ∨ i = 2 by simpa using hi) with rfl | rfl
          · exact .inr (fun y H' h => by obtain ⟨rfl, rfl⟩ := h; simp [Ptr, I, EV.lit, TO, RdO, TkV, Bs])
          · exact .inl (by simp [Wok])) ?_
      rintro y H' ⟨rfl, rfl⟩
      refine ⟨.inl (by simp [Ptr, I, EV.lit, TO, RdO, TkV, Bs]), le_ok rfl, ?_⟩
      simp [RdO, TO, I, w3, hY2, -Int.natCast_add]
      refine ⟨by omega, ?_⟩
      exact round (k + 1) [0, 1, 2, 3, 4, 5, 6, 104] (by omega) (by omega) (by simp) (by simp [e1, e2, zC, gC, TO, RdO, hZ2, hY2]) (by simp) (by simp) (by simp)
    have hkl : k = c.2 := by omega
    subst hkl
    have e1 : itH l M.1 (j + 1) = (Y.1, Z.2 ++ [⟨a.2, b.2, Y.2⟩]) := by simp only [itH, hZ, rdHol, ha, hb, hc, hY]
    have e2 : holv (Z.2 ++ [⟨a.2, b.2, Y.2⟩]) = holv Z.2 ++ [holF ⟨a.2, b.2, Y.2⟩] := by simp [holv]
    simp [w2, hZ2, hY2, -Int.natCast_add]
    refine ⟨⟨by omega, by omega⟩, ?_⟩
    exact round (j + 1) [0, 1, 2, 3, 4, 88] (by omega) (by omega) (by simp) (by simp [e1, e2, holF, zC, gC, TO, RdO, List.take_of_length_le, hY2]) (by simp) (by simp) (by simp)
  have hjl : j = M.2 := by omega
  subst hjl
  rw [hZ] at hrs
  have hdp := rdSta_p l
  rw [hrs] at hdp
  simp
  obtain ⟨E, hE⟩ : ∃ E, (if Z.1.2 ≠ 0 then Z.1.2 else if Z.1.1 < l.length then 3 else 0) = E := ⟨_, rfl⟩
  have td := RdDone_ok l Z.1.1 Z.1.2 qj.1
  rw [hE] at td
  refine callH [2] (td) (by simp [Ptr, I, EV.lit, TO, RdO, TkV, Bs]) (by simp [Ptr, I, EV.lit, TO, RdO, TkV, Bs]) (by simp) (by simp [Ptr, I, EV.lit, TO, RdO, TkV, Bs]) (by simp [Wok]) ?_
  rintro y H' ⟨rfl, rfl⟩
  refine ⟨.inl (by simp [Ptr, I, EV.lit, TO, RdO, TkV, Bs]), le_ok rfl, ?_⟩
  have hsl : (Sta.mk A.2 B.2 C.2 S.2 Z.2).pays.length = N.2 := hS2
  have hsh : (Sta.mk A.2 B.2 C.2 S.2 Z.2).holds.length = M.2 := hZ2
  by_cases hE0 : E = 0
  · subst hE0
    have hg : ¬ (Z.1.2 ≠ 0 ∨ Z.1.1 < l.length) := by
      intro h
      by_cases h1 : Z.1.2 = 0
      · rw [if_neg (by omega), if_pos (by omega)] at hE; omega
      · rw [if_pos h1] at hE; exact h1 hE
    simp [RdO, TO, EV.lit]
    refine call0 (Smay_ok ⟨A.2, B.2, C.2, S.2, Z.2⟩ hdp.2.1) (by simp [SV, staC, hS2, hZ2, List.take_of_length_le]) ?_
    rintro y H' ⟨rfl, rfl⟩
    refine ⟨.inr ⟨rfl, by simp⟩, le_ok rfl, ?_⟩
    by_cases hmay : mayS ⟨A.2, B.2, C.2, S.2, Z.2⟩ = true
    · have hd : decS l = (⟨A.2, B.2, C.2, S.2, Z.2⟩, 0) := by
        simp only [decS, hrs]
        rw [if_neg]
        rintro (h | h | h)
        · exact hg (.inl h)
        · exact hg (.inr h)
        · rw [hmay] at h; cases h
      rw [hd, hmay]
      simp [EV.lit, SE]
      refine finW _ (weak_frz (o := 4) (ty := 61) (es := 36) (xs := payv S.2) rfl) ?_
      refine finW _ (weak_frz (o := 5) (ty := 65) (es := 3) (xs := holv Z.2) rfl) ?_
      exact fin [] (by decide) rfl rfl rfl ⟨rfl, by simp [staC, List.take_of_length_le, hS2, hZ2]⟩
    · have hmay' : mayS ⟨A.2, B.2, C.2, S.2, Z.2⟩ = false := by simpa using hmay
      have hd : decS l = (zSta, 3) := by
        simp only [decS, hrs]
        rw [if_pos (.inr (.inr hmay'))]
      rw [hd, hmay']
      simp [EV.lit, SE, staC, zSta]
      refine finW _ (weak_nlB (o := 0) (k := 3) 36 rfl rfl) (finW _ (weak_nlB (o := 0) (k := 4) 3 rfl rfl) ?_)
      exact fin [] (by decide) rfl rfl rfl ⟨rfl, rfl⟩
  · have hd : decS l = (zSta, 3) := by
      simp only [decS, hrs]
      rw [if_pos]
      by_cases h1 : Z.1.2 = 0
      · by_cases h2 : Z.1.1 < l.length
        · exact .inr (.inl h2)
        · rw [if_neg (by omega), if_neg h2] at hE; exact absurd hE.symm hE0
      · exact .inl h1
    have hv : errV E = .iface 79 (.int .i64 E) := by rw [errV, if_neg hE0]
    rw [hd]
    simp [hv, RdO, TO, EV.lit, SE, staC, zSta]
    refine finW _ (weak_nlB (o := 0) (k := 3) 36 rfl rfl) (finW _ (weak_nlB (o := 0) (k := 4) 3 rfl rfl) ?_)
    exact fin [] (by decide) rfl rfl rfl ⟨rfl, rfl⟩

end Go.Proofs.YtpohjnhlhfbnaaaDoor

namespace Go.Proofs.YtpohjnhlhfbnaaaDoor
open Go Go.EW
set_option linter.unusedSimpArgs false
set_option linter.unusedVariables false
/- A state that may be is made of its bytes again; one that may not be is made of none. Plain. -/

/-- What a reading gives at bytes that were laid: all of it, or an error. -/
def Gt {α : Type} (f : Rs → Rs × α) (p : Nat) (b : List UInt8) (v : α) (C : Prop) : Prop := (C → f (p, 0) = ((p + b.length, 0), v)) ∧ ((f (p, 0)).1.2 = 0 → C)
theorem Gt.bind {α β : Type} {f : Rs → Rs × α} {g : α → Rs → Rs × β} {p : Nat} {b b' : List UInt8} {v : α} {v' : β} {C C' : Prop} (he : ∀ x σ, σ.2 ≠ 0 → (g x σ).1.2 ≠ 0) (h1 : Gt f p b v C) (h2 : C → Gt (g v) (p + b.length) b' v' C') :
    Gt (fun σ => g (f σ).2 (f σ).1) p (b ++ b') v' (C ∧ C') := by
  constructor
  · rintro ⟨c, c'⟩
    dsimp only
    rw [h1.1 c]
    dsimp only
    rw [(h2 c).1 c', List.length_append, Nat.add_assoc]
  · intro h
    dsimp only at h
    have c : C := by
      refine h1.2 ?_
      rcases Nat.eq_zero_or_pos (f (p, 0)).1.2 with h0 | h0
      · exact h0
      · exact absurd h (he _ _ (by omega))
    rw [h1.1 c] at h
    exact ⟨c, (h2 c).2 h⟩
theorem Gt.map {α β : Type} {f : Rs → Rs × α} {p : Nat} {b : List UInt8} {v : α} {C : Prop} (k : α → β) (h : Gt f p b v C) : Gt (fun σ => ((f σ).1, k (f σ).2)) p b (k v) C := by
  constructor
  · intro c
    dsimp only
    rw [h.1 c]
  · exact h.2
theorem Gt.iff {α : Type} {f : Rs → Rs × α} {p : Nat} {b : List UInt8} {v : α} {C C' : Prop} (h : Gt f p b v C) (e : C ↔ C') : Gt f p b v C' := ⟨fun c => h.1 (e.2 c), fun c => e.1 (h.2 c)⟩
theorem drop_of {l a r : List UInt8} {p : Nat} (h : l.drop p = a ++ r) : l.drop (p + a.length) = r := by rw [← List.drop_drop, h]; simp
def inr (n : Int) : Prop := 0 ≤ n ∧ n ≤ 1125899906842624
theorem num_big {k most : Nat} (h : k < 18446744073709551616) (hm : most < k) (r : List UInt8) : (numS (uintB k ++ r) most).1 = 4 := by
  have h8 := nb_8 h
  have e : uintB k ++ r = b8 (nb k) :: (dg k ++ r) := rfl
  have hb : (b8 (nb k)).toNat = nb k := by simp [b8]; omega
  rw [e]
  unfold numS
  dsimp only
  rw [hb, if_neg (by omega), low_dg0]
  simp [hm]
theorem tkU_G {l r : List UInt8} {p : Nat} {n : Int} (h : l.drop p = uB n ++ r) (hn : i64 n) : Gt (tkU l) p (uB n) n (inr n) := by
  have h64 := u64n_lt n
  constructor
  · rintro ⟨h1, h2⟩
    have hu : (u64n n : Int) = n := by unfold u64n; omega
    have h3 := num_rt (n := u64n n) (most := 1125899906842624) h64 (by omega) r
    simp only [tkU, uS, ne_eq, not_true, if_false]
    rw [h, show uB n = uintB (u64n n) from rfl, h3]
    simp [hu]
  · intro he
    simp only [tkU, uS, ne_eq, not_true, if_false] at he
    rw [h, show uB n = uintB (u64n n) from rfl] at he
    by_cases hb : u64n n ≤ 1125899906842624
    · unfold u64n at hb
      obtain ⟨q1, q2⟩ := hn
      unfold inr
      omega
    · have := num_big h64 (by omega : 1125899906842624 < u64n n) r
      omega
theorem tkN_G {l r : List UInt8} {p n : Nat} {m : Nat} (h : l.drop p = uB (n : Int) ++ r) (hn : n < 18446744073709551616) (hr : n ≤ r.length) : Gt (tkN l (m : Int)) p (uB (n : Int)) n (n ≤ m) := by
  have hu : u64n (n : Int) = n := u64n_ofNat hn
  have hm : (max 0 (m : Int)).toNat = m := by omega
  constructor
  · intro h1
    have h3 := num_rt (n := n) (most := m) hn h1 r
    simp only [tkN, nS, cntS, ne_eq, not_true, if_false]
    rw [h, hm, show uB (n : Int) = uintB (u64n (n : Int)) from rfl, hu, h3]
    dsimp only
    rw [if_neg (by simp), if_neg (by rw [List.length_append]; omega)]
  · intro he
    simp only [tkN, nS, cntS, ne_eq, not_true, if_false] at he
    rw [h, hm, show uB (n : Int) = uintB (u64n (n : Int)) from rfl, hu] at he
    by_cases hb : n ≤ m
    · exact hb
    · have := num_big hn (by omega : m < n) r
      rw [if_pos (by omega)] at he
      dsimp only at he
      omega
theorem tkH_G {l r h : List UInt8} {p : Nat} (e : l.drop p = h ++ r) (hl : h.length = 32) : Gt (tkH l) p h h True := by
  constructor
  · intro _
    simp only [tkH, aS, hashS, ne_eq, not_true, if_false]
    rw [e, if_neg (by rw [List.length_append]; omega)]
    simp [hl]
  · intro _; trivial
def inP (p : Pay) : Prop := inr p.id ∧ inr p.fr ∧ inr p.am ∧ inr p.af
def inH (h : Hol) : Prop := inr h.id ∧ inr h.am ∧ h.keys.length ≤ 16 ∧ ∀ k ∈ h.keys, inr k
theorem rdPay_G {l r : List UInt8} {p : Nat} {q : Pay} (h : l.drop p = payB q ++ r) (hq : q.ok) : Gt (rdPay l) p (payB q) q (inP q) := by
  obtain ⟨o1, o2, o3, o4, o5⟩ := hq
  have e : payB q = uB q.id ++ (uB q.fr ++ (uB q.am ++ (uB q.af ++ q.lock))) := by simp [payB, usB]
  rw [e] at h ⊢
  simp only [List.append_assoc] at h
  have d1 := drop_of h
  have d2 := drop_of d1
  have d3 := drop_of d2
  have d4 := drop_of d3
  have g5 := (tkH_G d4 o5).map fun k => (⟨q.id, q.fr, q.am, q.af, k⟩ : Pay)
  have g4 := Gt.bind (g := fun x σ => ((tkH l σ).1, (⟨q.id, q.fr, q.am, x, (tkH l σ).2⟩ : Pay))) (fun x σ hs => by rw [show (((tkH l σ).1, (⟨q.id, q.fr, q.am, x, (tkH l σ).2⟩ : Pay))).1 = (tkH l σ).1 from rfl, tkH_e hs]; exact hs) (tkU_G d3 o4) fun _ => g5
  have g3 := Gt.bind (g := fun x σ => ((tkH l (tkU l σ).1).1, (⟨q.id, q.fr, x, (tkU l σ).2, (tkH l (tkU l σ).1).2⟩ : Pay))) (fun x σ hs => by dsimp only; rw [tkU_e hs, tkH_e hs]; exact hs) (tkU_G d2 o3) fun _ => g4
  have g2 := Gt.bind (g := fun x σ => ((tkH l (tkU l (tkU l σ).1).1).1, (⟨q.id, x, (tkU l σ).2, (tkU l (tkU l σ).1).2, (tkH l (tkU l (tkU l σ).1).1).2⟩ : Pay))) (fun x σ hs => by dsimp only; rw [tkU_e hs, tkU_e hs, tkH_e hs]; exact hs) (tkU_G d1 o2) fun _ => g3
  have g1 := Gt.bind (g := fun x σ => ((tkH l (tkU l (tkU l (tkU l σ).1).1).1).1, (⟨x, (tkU l σ).2, (tkU l (tkU l σ).1).2, (tkU l (tkU l (tkU l σ).1).1).2, (tkH l (tkU l (tkU l (tkU l σ).1).1).1).2⟩ : Pay))) (fun x σ hs => by dsimp only; rw [tkU_e hs, tkU_e hs, tkU_e hs, tkH_e hs]; exact hs) (tkU_G h o1) fun _ => g2
  exact Gt.iff (f := rdPay l) g1 ⟨fun ⟨a, b, c, d, _⟩ => ⟨a, b, c, d⟩, fun ⟨a, b, c, d⟩ => ⟨a, b, c, d, trivial⟩⟩
/-- Things one behind the other. -/
theorem many_G {α : Type} {l : List UInt8} {rd : Rs → Rs × α} {enc : α → List UInt8} {C : α → Prop} {ok : α → Prop} {it : Rs → Nat → Rs × List α}
    (h0 : ∀ σ, it σ 0 = (σ, [])) (hs : ∀ σ n, it σ (n + 1) = ((rd (it σ n).1).1, (it σ n).2 ++ [(rd (it σ n).1).2])) (he : ∀ σ, σ.2 ≠ 0 → (rd σ).1 = σ)
    (hrd : ∀ p r q, l.drop p = enc q ++ r → ok q → Gt rd p (enc q) q (C q)) (p : Nat) :
    ∀ (n : Nat) (xs : List α) (r : List UInt8), xs.length = n → (∀ x ∈ xs, ok x) → l.drop p = xs.flatMap enc ++ r → Gt (fun σ => it σ n) p (xs.flatMap enc) xs (∀ x ∈ xs, C x)
  | 0, xs, r, hn, ho, h => by
    have : xs = [] := List.eq_nil_of_length_eq_zero hn
    subst this
    exact ⟨fun _ => by simp [h0], fun _ => by simp⟩
  | n + 1, xs, r, hn, ho, h => by
    obtain ⟨ys, y, rfl⟩ : ∃ ys y, xs = ys ++ [y] := ⟨xs.dropLast, xs.getLast (by rintro rfl; simp at hn), (List.dropLast_concat_getLast _).symm⟩
    have e : (ys ++ [y]).flatMap enc = ys.flatMap enc ++ enc y := by simp
    rw [e] at h ⊢
    rw [List.append_assoc] at h
    have g1 := many_G h0 hs he hrd p n ys _ (by simpa using hn) (fun x hx => ho x (by simp [hx])) h
    have g2 := (hrd _ r y (drop_of h) (ho y (by simp))).map fun z => ys ++ [z]
    have g3 := Gt.bind (g := fun (zs : List α) σ => ((rd σ).1, zs ++ [(rd σ).2])) (fun x σ hx => by dsimp only; rw [he σ hx]; exact hx) g1 fun _ => g2
    have g4 : Gt (fun σ => it σ (n + 1)) p (ys.flatMap enc ++ enc y) (ys ++ [y]) ((∀ x ∈ ys, C x) ∧ C y) := by
      have : (fun σ => it σ (n + 1)) = fun σ => ((rd (it σ n).1).1, (it σ n).2 ++ [(rd (it σ n).1).2]) := funext fun σ => hs σ n
      rw [this]
      exact g3
    refine g4.iff ?_
    constructor
    · rintro ⟨a, b⟩ x hx
      rcases List.mem_append.1 hx with h | h
      · exact a x h
      · rw [List.mem_singleton.1 h]; exact b
    · intro a
      exact ⟨fun x hx => a x (by simp [hx]), a y (by simp)⟩
theorem uB_pos (n : Int) : 1 ≤ (uB n).length := by simp [uB, uintB]
theorem flat_ge {α : Type} {f : α → List UInt8} (h : ∀ x, 1 ≤ (f x).length) : ∀ l : List α, l.length ≤ (l.flatMap f).length
  | [] => by simp
  | x :: r => by
    have := h x
    have := flat_ge h r
    simp only [List.flatMap_cons, List.length_append, List.length_cons]
    omega
theorem rdHol_G {l r : List UInt8} {p : Nat} {q : Hol} (h : l.drop p = holB q ++ r) (hq : q.ok) : Gt (rdHol l) p (holB q) q (inH q) := by
  obtain ⟨o1, o2, o3, o4⟩ := hq
  have e : holB q = uB q.id ++ (uB q.am ++ (uB (q.keys.length : Int) ++ q.keys.flatMap uB)) := by simp [holB, usB]
  rw [e] at h ⊢
  simp only [List.append_assoc] at h
  have d1 := drop_of h
  have d2 := drop_of d1
  have d3 := drop_of d2
  have hge := flat_ge uB_pos q.keys
  have g4 := (many_G (rd := tkU l) (enc := uB) (C := inr) (ok := i64) (it := itK l) (fun _ => rfl) (fun _ _ => rfl) (fun σ => tkU_e) (fun p r q => tkU_G) _ q.keys.length q.keys r rfl o3 d3).map fun k => (⟨q.id, q.am, k⟩ : Hol)
  have g3 := Gt.bind (g := fun x σ => ((itK l σ x).1, (⟨q.id, q.am, (itK l σ x).2⟩ : Hol))) (fun x σ hs => by dsimp only; rw [itK_e hs]; exact hs) (tkN_G (m := 16) d2 (by omega) (by rw [List.length_append]; omega)) fun _ => g4
  have g2 := Gt.bind (g := fun x σ => ((itK l (tkN l 16 σ).1 (tkN l 16 σ).2).1, (⟨q.id, x, (itK l (tkN l 16 σ).1 (tkN l 16 σ).2).2⟩ : Hol))) (fun x σ hs => by dsimp only; rw [tkN_e hs]; dsimp only; rw [itK_e hs]; exact hs) (tkU_G d1 o2) fun _ => g3
  have g1 := Gt.bind (g := fun x σ => ((itK l (tkN l 16 (tkU l σ).1).1 (tkN l 16 (tkU l σ).1).2).1, (⟨x, (tkU l σ).2, (itK l (tkN l 16 (tkU l σ).1).1 (tkN l 16 (tkU l σ).1).2).2⟩ : Hol))) (fun x σ hs => by dsimp only; rw [tkU_e hs, tkN_e hs]; dsimp only; rw [itK_e hs]; exact hs) (tkU_G h o1) fun _ => g2
  exact Gt.iff (f := rdHol l) g1 Iff.rfl
def inS (s : Sta) : Prop := inr s.num ∧ inr s.h0 ∧ inr s.h1 ∧ s.pays.length ≤ 8 ∧ (∀ p ∈ s.pays, inP p) ∧ s.holds.length ≤ 8 ∧ ∀ h ∈ s.holds, inH h
theorem payB_pos (q : Pay) : 1 ≤ (payB q).length := by
  have := uB_pos q.id
  simp [payB, usB]
  omega
theorem holB_pos (q : Hol) : 1 ≤ (holB q).length := by
  have := uB_pos q.id
  simp [holB, usB]
  omega
def rdS5 (l : List UInt8) (a b c : Int) (p : List Pay) (σ : Rs) : Rs × Sta := ((itH l (tkN l 8 σ).1 (tkN l 8 σ).2).1, ⟨a, b, c, p, (itH l (tkN l 8 σ).1 (tkN l 8 σ).2).2⟩)
def rdS4 (l : List UInt8) (a b c : Int) (n : Nat) (σ : Rs) : Rs × Sta := rdS5 l a b c (itP l σ n).2 (itP l σ n).1
def rdS3 (l : List UInt8) (a b c : Int) (σ : Rs) : Rs × Sta := rdS4 l a b c (tkN l 8 σ).2 (tkN l 8 σ).1
def rdS2 (l : List UInt8) (a b : Int) (σ : Rs) : Rs × Sta := rdS3 l a b (tkU l σ).2 (tkU l σ).1
def rdS1 (l : List UInt8) (a : Int) (σ : Rs) : Rs × Sta := rdS2 l a (tkU l σ).2 (tkU l σ).1
def rdS0 (l : List UInt8) (σ : Rs) : Rs × Sta := rdS1 l (tkU l σ).2 (tkU l σ).1
theorem rdS5_e {l : List UInt8} {a b c : Int} {p : List Pay} {σ : Rs} (h : σ.2 ≠ 0) : (rdS5 l a b c p σ).1.2 ≠ 0 := by unfold rdS5; dsimp only; rw [tkN_e h]; dsimp only; rw [itH_e h]; exact h
theorem rdS4_e {l : List UInt8} {a b c : Int} {n : Nat} {σ : Rs} (h : σ.2 ≠ 0) : (rdS4 l a b c n σ).1.2 ≠ 0 := by unfold rdS4; rw [itP_e h]; exact rdS5_e h
theorem rdS3_e {l : List UInt8} {a b c : Int} {σ : Rs} (h : σ.2 ≠ 0) : (rdS3 l a b c σ).1.2 ≠ 0 := by unfold rdS3; rw [tkN_e h]; exact rdS4_e h
theorem rdS2_e {l : List UInt8} {a b : Int} {σ : Rs} (h : σ.2 ≠ 0) : (rdS2 l a b σ).1.2 ≠ 0 := by unfold rdS2; rw [tkU_e h]; exact rdS3_e h
theorem rdS1_e {l : List UInt8} {a : Int} {σ : Rs} (h : σ.2 ≠ 0) : (rdS1 l a σ).1.2 ≠ 0 := by unfold rdS1; rw [tkU_e h]; exact rdS2_e h
theorem rdSta_G {s : Sta} (hs : s.ok) : Gt (rdS0 (encS s)) 0 (encS s) s (inS s) := by
  obtain ⟨ok1, ok2, ok3, ok4, ok5, ok6, ok7⟩ := hs
  have e : encS s = uB s.num ++ (uB s.h0 ++ (uB s.h1 ++ (uB (s.pays.length : Int) ++ (s.pays.flatMap payB ++ (uB (s.holds.length : Int) ++ s.holds.flatMap holB))))) := by simp [encS, usB]
  obtain ⟨l, hl⟩ : ∃ l, encS s = l := ⟨_, rfl⟩
  rw [hl] at e ⊢
  have h : l.drop 0 = uB s.num ++ (uB s.h0 ++ (uB s.h1 ++ (uB (s.pays.length : Int) ++ (s.pays.flatMap payB ++ (uB (s.holds.length : Int) ++ (s.holds.flatMap holB ++ [])))))) := by rw [List.append_nil, ← e, List.drop_zero]
  have d1 := drop_of h
  have d2 := drop_of d1
  have d3 := drop_of d2
  have d4 := drop_of d3
  have d5 := drop_of d4
  have d6 := drop_of d5
  have hg1 := flat_ge payB_pos s.pays
  have hg2 := flat_ge holB_pos s.holds
  have g7 := (many_G (rd := rdHol l) (enc := holB) (C := inH) (ok := Hol.ok) (it := itH l) (fun _ => rfl) (fun _ _ => rfl) (fun σ => rdHol_e) (fun p r q => rdHol_G) _ s.holds.length s.holds [] rfl ok5 d6).map fun k => (⟨s.num, s.h0, s.h1, s.pays, k⟩ : Sta)
  have g6 := Gt.bind (g := fun x σ => ((itH l σ x).1, (⟨s.num, s.h0, s.h1, s.pays, (itH l σ x).2⟩ : Sta))) (fun x σ hx => by dsimp only; rw [itH_e hx]; exact hx) (tkN_G (m := 8) d5 (by omega) (by rw [List.length_append]; omega)) fun _ => g7
  have g5 := Gt.bind (g := fun x σ => rdS5 l s.num s.h0 s.h1 x σ) (fun x σ hx => rdS5_e hx) (many_G (rd := rdPay l) (enc := payB) (C := inP) (ok := Pay.ok) (it := itP l) (fun _ => rfl) (fun _ _ => rfl) (fun σ => rdPay_e) (fun p r q => rdPay_G) _ s.pays.length s.pays _ rfl ok4 d4) fun _ => g6
  have g4 := Gt.bind (g := fun x σ => rdS4 l s.num s.h0 s.h1 x σ) (fun x σ hx => rdS4_e hx) (tkN_G (m := 8) d3 (by omega) (by rw [List.length_append]; omega)) fun _ => g5
  have g3 := Gt.bind (g := fun x σ => rdS3 l s.num s.h0 x σ) (fun x σ hx => rdS3_e hx) (tkU_G d2 ok3) fun _ => g4
  have g2 := Gt.bind (g := fun x σ => rdS2 l s.num x σ) (fun x σ hx => rdS2_e hx) (tkU_G d1 ok2) fun _ => g3
  have g1 := Gt.bind (g := fun x σ => rdS1 l x σ) (fun x σ hx => rdS1_e hx) (tkU_G h ok1) fun _ => g2
  have e2 : l = uB s.num ++ (uB s.h0 ++ (uB s.h1 ++ (uB (s.pays.length : Int) ++ (s.pays.flatMap payB ++ (uB (s.holds.length : Int) ++ s.holds.flatMap holB))))) := e
  have g0 : Gt (rdS0 l) 0 (uB s.num ++ (uB s.h0 ++ (uB s.h1 ++ (uB (s.pays.length : Int) ++ (s.pays.flatMap payB ++ (uB (s.holds.length : Int) ++ s.holds.flatMap holB)))))) s (inS s) :=
    Gt.iff (f := rdS0 l) g1 Iff.rfl
  rw [← e2] at g0
  exact g0
theorem keysS_le : ∀ {l : List Int} {last : Int}, -1 ≤ last → keysS last l = true → (∀ k ∈ l, 0 ≤ k ∧ k < 16) ∧ (l.length : Int) ≤ max 0 (15 - last)
  | [], last, h0, _ => by simp; omega
  | k :: r, last, h0, h => by
    simp only [keysS, Bool.and_eq_true, decide_eq_true_eq] at h
    obtain ⟨⟨h1, h2⟩, h3⟩ := h
    obtain ⟨q1, q2⟩ := keysS_le (last := k) (by omega) h3
    refine ⟨?_, ?_⟩
    · intro x hx
      rcases List.mem_cons.1 hx with rfl | hx
      · omega
      · exact q1 x hx
    · simp only [List.length_cons]
      omega
theorem mayP_in {p : Pay} (h : mayP p = true) : inP p := by
  have := of_decide_eq_true h
  obtain ⟨h1, h2, h3, h4, h5, h6, h7, h8⟩ := this
  refine ⟨⟨h1, by omega⟩, ?_, ⟨by omega, h5⟩, ⟨h6, by omega⟩⟩
  unfold inr; omega
theorem mayH_in {p : Hol} (h : mayH p = true) : inH p := by
  simp only [mayH, Bool.and_eq_true, decide_eq_true_eq] at h
  obtain ⟨h1, h2, h3, h4, h5, h6⟩ := h
  obtain ⟨q1, q2⟩ := keysS_le (by omega) h1
  refine ⟨⟨h2, by omega⟩, ⟨by omega, h5⟩, by omega, fun k hk => ?_⟩
  have := q1 k hk
  unfold inr; omega
theorem payL_in : ∀ {o : Option Int} {l : List Pay}, payL o l = true → ∀ p ∈ l, mayP p = true
  | o, [], _, p, hp => by simp at hp
  | o, q :: r, h, p, hp => by
    simp only [payL, Bool.and_eq_true] at h
    rcases List.mem_cons.1 hp with rfl | hp
    · exact h.1.1
    · exact payL_in h.2 p hp
theorem holL_in : ∀ {o : Option Int} {l : List Hol}, holL o l = true → ∀ p ∈ l, mayH p = true
  | o, [], _, p, hp => by simp at hp
  | o, q :: r, h, p, hp => by
    simp only [holL, Bool.and_eq_true] at h
    rcases List.mem_cons.1 hp with rfl | hp
    · exact h.1.1
    · exact holL_in h.2 p hp
theorem mayS_in {s : Sta} (h : mayS s = true) : inS s := by
  obtain ⟨⟨h1, h2, h3, h4, h5, h6, h7, h8⟩, hp, hh, _⟩ := mayS_t h
  refine ⟨⟨h1, by omega⟩, ⟨h3, h4⟩, ⟨h5, h6⟩, h7, fun p hpm => mayP_in (payL_in hp p hpm), by omega, fun q hq => mayH_in (holL_in hh q hq)⟩
/-- A state that may be is made of its bytes again; one that may not be is made of none. -/
theorem decS_rt {s : Sta} (hs : s.ok) : decS (encS s) = if mayS s then (s, 0) else (zSta, 3) := by
  have hg := rdSta_G hs
  have he : rdSta (encS s) = rdS0 (encS s) (0, 0) := rfl
  by_cases hi : inS s
  · have h1 := hg.1 hi
    unfold decS
    rw [he, h1]
    by_cases hm : mayS s = true
    · simp [hm]
    · simp [hm]
  · have hm : ¬ mayS s = true := fun h => hi (mayS_in h)
    have h1 : (rdS0 (encS s) (0, 0)).1.2 ≠ 0 := fun h => hi (hg.2 h)
    unfold decS
    rw [he, if_pos (.inl h1), if_neg hm]

end Go.Proofs.YtpohjnhlhfbnaaaDoor

namespace Go.Proofs.YtpohjnhlhfbnaaaDoor
open Go Go.EW
set_option linter.unusedSimpArgs false
set_option linter.unusedVariables false

@[simp] def l_Rot_1 (_ : Unit) : List EOp := [⟨0, (some 4), none, (.q (.mov (.k (.int .u32 0)))), []⟩]
@[simp] def b_Rot_2 (_ : Unit) : EB := reg0 (hid l_Rot_1) 1
@[simp] def l_Rot_3 (_ : Unit) : List EOp := [⟨0, (some 6), none, (.q (.mov (.t 1))), []⟩, ⟨1, (some 7), none, (.q (.cnv .u64 (.t 6))), []⟩, ⟨2, (some 8), none, (.q (.bin .and (.t 7) (.k (.int .u64 31)))), []⟩, ⟨3, (some 5), none, (.q (.mov (.t 8))), []⟩]
@[simp] def b_Rot_4 (_ : Unit) : EB := reg0 (hid l_Rot_3) 4
@[simp] def l_Rot_6 (_ : Unit) : List EOp := [⟨6, (some 15), none, (.q (.bin .shr (.t 12) (.t 14))), []⟩, ⟨7, (some 16), none, (.q (.bin .or (.t 11) (.t 15))), []⟩, ⟨8, (some 4), none, (.q (.mov (.t 16))), []⟩]
@[simp] def l_Rot_5 (_ : Unit) : List EOp := ⟨0, (some 9), none, (.q (.mov (.t 0))), []⟩ :: ⟨1, (some 10), none, (.q (.mov (.t 5))), []⟩ :: ⟨2, (some 11), none, (.q (.bin .shl (.t 9) (.t 10))), []⟩ :: ⟨3, (some 12), none, (.q (.mov (.t 0))), []⟩ :: ⟨4, (some 13), none, (.q (.mov (.t 5))), []⟩ :: ⟨5, (some 14), none, (.q (.bin .sub (.k (.int .u64 32)) (.t 13))), []⟩ :: hid l_Rot_6
@[simp] def b_Rot_7 (_ : Unit) : EB := reg0 (hid l_Rot_5) 9
@[simp] def b_Rot_8 (_ : Unit) : EB := .seq (hid b_Rot_7) .ret
@[simp] def b_Rot_9 (_ : Unit) : EB := .seq (hid b_Rot_4) (hid b_Rot_8)
@[simp] def b_Rot_10 (_ : Unit) : EB := .seq (hid b_Rot_2) (hid b_Rot_9)
def c_Rot : EB × List QOp × Nat := ((hid b_Rot_10), [(.mov (.t 4))], 17)
theorem k_Rot : cfun Tryd.prog 129 = some c_Rot := by kernel_rfl

@[simp] def l_mix_3 (_ : Unit) : List EOp := [⟨12, (some 26), none, (.q (.bin .add (.t 18) (.t 25))), []⟩, ⟨13, (some 27), none, (.q (.nilc (.t 14))), []⟩, ⟨14, (some 28), none, (.q (.iad 16 1 (.t 27) (.t 15))), []⟩, ⟨15, none, none, (.sto 1 (.t 28) (.t 26)), []⟩]
@[simp] def l_mix_2 (_ : Unit) : List EOp := ⟨6, (some 20), none, (.q (.mov (.t 2))), []⟩ :: ⟨7, (some 21), none, (.q (.nilc (.t 19))), []⟩ :: ⟨8, (some 22), none, (.q (.iad 16 1 (.t 21) (.t 20))), []⟩ :: ⟨9, (some 23), none, (.q (.ldc (.t 22))), []⟩ :: ⟨10, (some 24), none, (.q (.mov (.t 5))), []⟩ :: ⟨11, (some 25), none, (.q (.bin .add (.t 23) (.t 24))), []⟩ :: hid l_mix_3
@[simp] def l_mix_1 (_ : Unit) : List EOp := ⟨0, (some 14), none, (.q (.mov (.t 0))), []⟩ :: ⟨1, (some 15), none, (.q (.mov (.t 1))), []⟩ :: ⟨2, (some 16), none, (.q (.nilc (.t 14))), []⟩ :: ⟨3, (some 17), none, (.q (.iad 16 1 (.t 16) (.t 15))), []⟩ :: ⟨4, (some 18), none, (.q (.ldc (.t 17))), []⟩ :: ⟨5, (some 19), none, (.q (.mov (.t 0))), []⟩ :: hid l_mix_2
@[simp] def b_mix_4 (_ : Unit) : EB := reg0 (hid l_mix_1) 16
@[simp] def l_mix_7 (_ : Unit) : List EOp := [⟨12, (some 41), none, (.q (.bin .xor (.t 35) (.t 40))), []⟩, ⟨14, (some 43), none, (.q (.nilc (.t 29))), []⟩, ⟨13, (some 42), none, (.call 129 [(.t 41), (.k (.int .i64 (-16)))]), [0, 1, 14]⟩, ⟨15, (some 44), none, (.q (.iad 16 1 (.t 43) (.t 30))), []⟩, ⟨16, none, none, (.sto 1 (.t 44) (.t 42)), []⟩]
@[simp] def l_mix_6 (_ : Unit) : List EOp := ⟨6, (some 35), none, (.q (.ldc (.t 34))), []⟩ :: ⟨7, (some 36), none, (.q (.mov (.t 0))), []⟩ :: ⟨8, (some 37), none, (.q (.mov (.t 1))), []⟩ :: ⟨9, (some 38), none, (.q (.nilc (.t 36))), []⟩ :: ⟨10, (some 39), none, (.q (.iad 16 1 (.t 38) (.t 37))), []⟩ :: ⟨11, (some 40), none, (.q (.ldc (.t 39))), []⟩ :: hid l_mix_7
@[simp] def l_mix_5 (_ : Unit) : List EOp := ⟨0, (some 29), none, (.q (.mov (.t 0))), []⟩ :: ⟨1, (some 30), none, (.q (.mov (.t 4))), []⟩ :: ⟨2, (some 31), none, (.q (.mov (.t 0))), []⟩ :: ⟨3, (some 32), none, (.q (.mov (.t 4))), []⟩ :: ⟨4, (some 33), none, (.q (.nilc (.t 31))), []⟩ :: ⟨5, (some 34), none, (.q (.iad 16 1 (.t 33) (.t 32))), []⟩ :: hid l_mix_6
@[simp] def b_mix_8 (_ : Unit) : EB := reg1 (hid l_mix_5) 17
@[simp] def l_mix_11 (_ : Unit) : List EOp := [⟨12, (some 57), none, (.q (.iad 16 1 (.t 56) (.t 46))), []⟩, ⟨13, none, none, (.sto 1 (.t 57) (.t 55)), []⟩]
@[simp] def l_mix_10 (_ : Unit) : List EOp := ⟨6, (some 51), none, (.q (.mov (.t 4))), []⟩ :: ⟨7, (some 52), none, (.q (.nilc (.t 50))), []⟩ :: ⟨8, (some 53), none, (.q (.iad 16 1 (.t 52) (.t 51))), []⟩ :: ⟨9, (some 54), none, (.q (.ldc (.t 53))), []⟩ :: ⟨10, (some 55), none, (.q (.bin .add (.t 49) (.t 54))), []⟩ :: ⟨11, (some 56), none, (.q (.nilc (.t 45))), []⟩ :: hid l_mix_11
@[simp] def l_mix_9 (_ : Unit) : List EOp := ⟨0, (some 45), none, (.q (.mov (.t 0))), []⟩ :: ⟨1, (some 46), none, (.q (.mov (.t 3))), []⟩ :: ⟨2, (some 47), none, (.q (.nilc (.t 45))), []⟩ :: ⟨3, (some 48), none, (.q (.iad 16 1 (.t 47) (.t 46))), []⟩ :: ⟨4, (some 49), none, (.q (.ldc (.t 48))), []⟩ :: ⟨5, (some 50), none, (.q (.mov (.t 0))), []⟩ :: hid l_mix_10
@[simp] def b_mix_12 (_ : Unit) : EB := reg0 (hid l_mix_9) 14
@[simp] def l_mix_15 (_ : Unit) : List EOp := [⟨12, (some 70), none, (.q (.bin .xor (.t 64) (.t 69))), []⟩, ⟨14, (some 72), none, (.q (.nilc (.t 58))), []⟩, ⟨13, (some 71), none, (.call 129 [(.t 70), (.k (.int .i64 (-12)))]), [0, 1, 14]⟩, ⟨15, (some 73), none, (.q (.iad 16 1 (.t 72) (.t 59))), []⟩, ⟨16, none, none, (.sto 1 (.t 73) (.t 71)), []⟩]
@[simp] def l_mix_14 (_ : Unit) : List EOp := ⟨6, (some 64), none, (.q (.ldc (.t 63))), []⟩ :: ⟨7, (some 65), none, (.q (.mov (.t 0))), []⟩ :: ⟨8, (some 66), none, (.q (.mov (.t 3))), []⟩ :: ⟨9, (some 67), none, (.q (.nilc (.t 65))), []⟩ :: ⟨10, (some 68), none, (.q (.iad 16 1 (.t 67) (.t 66))), []⟩ :: ⟨11, (some 69), none, (.q (.ldc (.t 68))), []⟩ :: hid l_mix_15
@[simp] def l_mix_13 (_ : Unit) : List EOp := ⟨0, (some 58), none, (.q (.mov (.t 0))), []⟩ :: ⟨1, (some 59), none, (.q (.mov (.t 2))), []⟩ :: ⟨2, (some 60), none, (.q (.mov (.t 0))), []⟩ :: ⟨3, (some 61), none, (.q (.mov (.t 2))), []⟩ :: ⟨4, (some 62), none, (.q (.nilc (.t 60))), []⟩ :: ⟨5, (some 63), none, (.q (.iad 16 1 (.t 62) (.t 61))), []⟩ :: hid l_mix_14
@[simp] def b_mix_16 (_ : Unit) : EB := reg1 (hid l_mix_13) 17
@[simp] def l_mix_19 (_ : Unit) : List EOp := [⟨12, (some 86), none, (.q (.bin .add (.t 78) (.t 85))), []⟩, ⟨13, (some 87), none, (.q (.nilc (.t 74))), []⟩, ⟨14, (some 88), none, (.q (.iad 16 1 (.t 87) (.t 75))), []⟩, ⟨15, none, none, (.sto 1 (.t 88) (.t 86)), []⟩]
@[simp] def l_mix_18 (_ : Unit) : List EOp := ⟨6, (some 80), none, (.q (.mov (.t 2))), []⟩ :: ⟨7, (some 81), none, (.q (.nilc (.t 79))), []⟩ :: ⟨8, (some 82), none, (.q (.iad 16 1 (.t 81) (.t 80))), []⟩ :: ⟨9, (some 83), none, (.q (.ldc (.t 82))), []⟩ :: ⟨10, (some 84), none, (.q (.mov (.t 6))), []⟩ :: ⟨11, (some 85), none, (.q (.bin .add (.t 83) (.t 84))), []⟩ :: hid l_mix_19
@[simp] def l_mix_17 (_ : Unit) : List EOp := ⟨0, (some 74), none, (.q (.mov (.t 0))), []⟩ :: ⟨1, (some 75), none, (.q (.mov (.t 1))), []⟩ :: ⟨2, (some 76), none, (.q (.nilc (.t 74))), []⟩ :: ⟨3, (some 77), none, (.q (.iad 16 1 (.t 76) (.t 75))), []⟩ :: ⟨4, (some 78), none, (.q (.ldc (.t 77))), []⟩ :: ⟨5, (some 79), none, (.q (.mov (.t 0))), []⟩ :: hid l_mix_18
@[simp] def b_mix_20 (_ : Unit) : EB := reg0 (hid l_mix_17) 16
@[simp] def l_mix_23 (_ : Unit) : List EOp := [⟨12, (some 101), none, (.q (.bin .xor (.t 95) (.t 100))), []⟩, ⟨14, (some 103), none, (.q (.nilc (.t 89))), []⟩, ⟨13, (some 102), none, (.call 129 [(.t 101), (.k (.int .i64 (-8)))]), [0, 1, 14]⟩, ⟨15, (some 104), none, (.q (.iad 16 1 (.t 103) (.t 90))), []⟩, ⟨16, none, none, (.sto 1 (.t 104) (.t 102)), []⟩]
@[simp] def l_mix_22 (_ : Unit) : List EOp := ⟨6, (some 95), none, (.q (.ldc (.t 94))), []⟩ :: ⟨7, (some 96), none, (.q (.mov (.t 0))), []⟩ :: ⟨8, (some 97), none, (.q (.mov (.t 1))), []⟩ :: ⟨9, (some 98), none, (.q (.nilc (.t 96))), []⟩ :: ⟨10, (some 99), none, (.q (.iad 16 1 (.t 98) (.t 97))), []⟩ :: ⟨11, (some 100), none, (.q (.ldc (.t 99))), []⟩ :: hid l_mix_23
@[simp] def l_mix_21 (_ : Unit) : List EOp := ⟨0, (some 89), none, (.q (.mov (.t 0))), []⟩ :: ⟨1, (some 90), none, (.q (.mov (.t 4))), []⟩ :: ⟨2, (some 91), none, (.q (.mov (.t 0))), []⟩ :: ⟨3, (some 92), none, (.q (.mov (.t 4))), []⟩ :: ⟨4, (some 93), none, (.q (.nilc (.t 91))), []⟩ :: ⟨5, (some 94), none, (.q (.iad 16 1 (.t 93) (.t 92))), []⟩ :: hid l_mix_22
@[simp] def b_mix_24 (_ : Unit) : EB := reg1 (hid l_mix_21) 17
@[simp] def l_mix_27 (_ : Unit) : List EOp := [⟨12, (some 117), none, (.q (.iad 16 1 (.t 116) (.t 106))), []⟩, ⟨13, none, none, (.sto 1 (.t 117) (.t 115)), []⟩]
@[simp] def l_mix_26 (_ : Unit) : List EOp := ⟨6, (some 111), none, (.q (.mov (.t 4))), []⟩ :: ⟨7, (some 112), none, (.q (.nilc (.t 110))), []⟩ :: ⟨8, (some 113), none, (.q (.iad 16 1 (.t 112) (.t 111))), []⟩ :: ⟨9, (some 114), none, (.q (.ldc (.t 113))), []⟩ :: ⟨10, (some 115), none, (.q (.bin .add (.t 109) (.t 114))), []⟩ :: ⟨11, (some 116), none, (.q (.nilc (.t 105))), []⟩ :: hid l_mix_27
@[simp] def l_mix_25 (_ : Unit) : List EOp := ⟨0, (some 105), none, (.q (.mov (.t 0))), []⟩ :: ⟨1, (some 106), none, (.q (.mov (.t 3))), []⟩ :: ⟨2, (some 107), none, (.q (.nilc (.t 105))), []⟩ :: ⟨3, (some 108), none, (.q (.iad 16 1 (.t 107) (.t 106))), []⟩ :: ⟨4, (some 109), none, (.q (.ldc (.t 108))), []⟩ :: ⟨5, (some 110), none, (.q (.mov (.t 0))), []⟩ :: hid l_mix_26
@[simp] def b_mix_28 (_ : Unit) : EB := reg0 (hid l_mix_25) 14
@[simp] def l_mix_31 (_ : Unit) : List EOp := [⟨12, (some 130), none, (.q (.bin .xor (.t 124) (.t 129))), []⟩, ⟨14, (some 132), none, (.q (.nilc (.t 118))), []⟩, ⟨13, (some 131), none, (.call 129 [(.t 130), (.k (.int .i64 (-7)))]), [0, 1, 14]⟩, ⟨15, (some 133), none, (.q (.iad 16 1 (.t 132) (.t 119))), []⟩, ⟨16, none, none, (.sto 1 (.t 133) (.t 131)), []⟩]
@[simp] def l_mix_30 (_ : Unit) : List EOp := ⟨6, (some 124), none, (.q (.ldc (.t 123))), []⟩ :: ⟨7, (some 125), none, (.q (.mov (.t 0))), []⟩ :: ⟨8, (some 126), none, (.q (.mov (.t 3))), []⟩ :: ⟨9, (some 127), none, (.q (.nilc (.t 125))), []⟩ :: ⟨10, (some 128), none, (.q (.iad 16 1 (.t 127) (.t 126))), []⟩ :: ⟨11, (some 129), none, (.q (.ldc (.t 128))), []⟩ :: hid l_mix_31
@[simp] def l_mix_29 (_ : Unit) : List EOp := ⟨0, (some 118), none, (.q (.mov (.t 0))), []⟩ :: ⟨1, (some 119), none, (.q (.mov (.t 2))), []⟩ :: ⟨2, (some 120), none, (.q (.mov (.t 0))), []⟩ :: ⟨3, (some 121), none, (.q (.mov (.t 2))), []⟩ :: ⟨4, (some 122), none, (.q (.nilc (.t 120))), []⟩ :: ⟨5, (some 123), none, (.q (.iad 16 1 (.t 122) (.t 121))), []⟩ :: hid l_mix_30
@[simp] def b_mix_32 (_ : Unit) : EB := reg1 (hid l_mix_29) 17
@[simp] def b_mix_33 (_ : Unit) : EB := .seq (hid b_mix_28) (hid b_mix_32)
@[simp] def b_mix_34 (_ : Unit) : EB := .seq (hid b_mix_24) (hid b_mix_33)
@[simp] def b_mix_35 (_ : Unit) : EB := .seq (hid b_mix_20) (hid b_mix_34)
@[simp] def b_mix_36 (_ : Unit) : EB := .seq (hid b_mix_16) (hid b_mix_35)
@[simp] def b_mix_37 (_ : Unit) : EB := .seq (hid b_mix_12) (hid b_mix_36)
@[simp] def b_mix_38 (_ : Unit) : EB := .seq (hid b_mix_8) (hid b_mix_37)
@[simp] def b_mix_39 (_ : Unit) : EB := .seq (hid b_mix_4) (hid b_mix_38)
def c_mix : EB × List QOp × Nat := ((hid b_mix_39), [], 134)
theorem k_mix : cfun Tryd.prog 124 = some c_mix := by kernel_rfl

@[simp] def l_first_1 (_ : Unit) : List EOp := [⟨0, (some 0), none, (.q (.alloc 150 [(.int .u32 0), (.int .u32 0), (.int .u32 0), (.int .u32 0), (.int .u32 0), (.int .u32 0), (.int .u32 0), (.int .u32 0)])), []⟩]
@[simp] def b_first_2 (_ : Unit) : EB := reg0 (hid l_first_1) 1
@[simp] def l_first_3 (_ : Unit) : List EOp := [⟨0, (some 1), none, (.q (.build [(.int .u32 0), (.int .u32 0), (.int .u32 0), (.int .u32 0), (.int .u32 0), (.int .u32 0), (.int .u32 0), (.int .u32 0)] [(0, 1, (.k (.int .u32 1779033703))), (1, 1, (.k (.int .u32 3144134277))), (2, 1, (.k (.int .u32 1013904242))), (3, 1, (.k (.int .u32 2773480762))), (4, 1, (.k (.int .u32 1359893119))), (5, 1, (.k (.int .u32 2600822924))), (6, 1, (.k (.int .u32 528734635))), (7, 1, (.k (.int .u32 1541459225)))])), []⟩, ⟨1, none, none, (.sto 8 (.t 0) (.t 1)), []⟩]
@[simp] def b_first_4 (_ : Unit) : EB := reg0 (hid l_first_3) 2
@[simp] def b_first_5 (_ : Unit) : EB := .seq (hid b_first_4) .ret
@[simp] def b_first_6 (_ : Unit) : EB := .seq (hid b_first_2) (hid b_first_5)
def c_first : EB × List QOp × Nat := ((hid b_first_6), [(.lda 8 (.t 0))], 2)
theorem k_first : cfun Tryd.prog 99 = some c_first := by kernel_rfl


/-! ### words -/
/-- A word as the program has it. -/
def wi (x : UInt32) : Int := (x.toNat : Int)
def wc (x : UInt32) : EC := .fz (.lit (.int .u32 (wi x)))
def wl (l : List UInt32) : List EC := l.map wc
def WV (x : UInt32) : EV := .lit (.int .u32 (wi x))
def NV (n : Int) : EV := .lit (.int .i64 n)
@[simp] theorem wl_len (l : List UInt32) : (wl l).length = l.length := by simp [wl]
theorem wl_get {l : List UInt32} {i : Nat} {x : UInt32} (h : l[i]? = some x) : (wl l)[i]? = some (wc x) := by simp [wl, h]
theorem wl_set (l : List UInt32) (i : Nat) (x : UInt32) : (wl l).set i (.fz (.lit (.int .u32 (wi x)))) = wl (l.set i x) := by simp [wl, List.map_set, wc]
@[simp] theorem conAll_wl (H : Nat → Option EO) (ids : List Nat) (l : List UInt32) : conAll H ids (wl l) = some (wl l) := by
  induction l with
  | nil => rfl
  | cons b t ih =>
    have e : wl (b :: t) = .fz (.lit (.int .u32 (wi b))) :: wl t := rfl
    rw [e]
    simp only [conAll, ih]
    simp
@[simp] theorem strAll_wl (ids : List Nat) (l : List UInt32) : strAll ids (wl l) = some (wl l) := by
  induction l with
  | nil => rfl
  | cons b r ih => simp only [wl, List.map_cons, strAll] at *; rw [ih]; rfl
@[simp] theorem refs_wl (l : List UInt32) : (wl l).flatMap refsC = [] := by
  induction l with
  | nil => rfl
  | cons b r ih => simp only [wl, List.map_cons, List.flatMap_cons] at *; rw [ih]; rfl
@[simp] theorem fz_wl (ids : List Nat) (l : List UInt32) : (wl l).flatMap (fzC ids) = [] := by
  induction l with
  | nil => rfl
  | cons b r ih => simp only [wl, List.map_cons, List.flatMap_cons] at *; rw [ih]; rfl
@[simp] theorem ren_wl (g : Nat → Nat) (l : List UInt32) : (wl l).map (renC g) = wl l := by
  induction l with
  | nil => rfl
  | cons b r ih => simp only [wl, List.map_cons] at *; rw [ih]; rfl
def shl (x : UInt32) (k : Nat) : UInt32 := UInt32.ofNat (x.toNat * 2 ^ k)
def shr (x : UInt32) (k : Nat) : UInt32 := UInt32.ofNat (x.toNat / 2 ^ k)
def rotr (x : UInt32) (k : Nat) : UInt32 := shl x (32 - k) ||| shr x k
theorem u32_mod (n : Int) : IntKind.u32.wrap n = n % 4294967296 := by simp [IntKind.wrap, IntKind.bits, IntKind.signed]
theorem wi_ofNat (n : Nat) : wi (UInt32.ofNat n) = (n : Int) % 4294967296 := by
  unfold wi
  rw [UInt32.toNat_ofNat']
  omega
theorem wi_b (x : UInt32) : 0 ≤ wi x ∧ wi x < 4294967296 := by
  unfold wi
  have := x.toNat_lt
  simp at *
  omega
theorem wi_add (x y : UInt32) : IntKind.u32.wrap (wi x + wi y) = wi (x + y) := by
  rw [u32_mod]
  unfold wi
  rw [UInt32.toNat_add]
  omega
theorem wi_of (x : UInt32) : BitVec.ofInt IntKind.u32.bits (wi x) = x.toBitVec := by
  unfold wi
  simp [IntKind.bits]
theorem wrap_wi (x : UInt32) : IntKind.u32.wrap (wi x) = wi x := by
  have := wi_b x
  rw [u32_mod]; omega
theorem wi_xor (x y : UInt32) : ibit .xor .u32 (wi x) (wi y) = wi (x ^^^ y) := by
  have h3 : (BitVec.ofInt IntKind.u32.bits (wi x) ^^^ BitVec.ofInt IntKind.u32.bits (wi y)).toNat = (x ^^^ y).toNat := by
    rw [wi_of, wi_of]; rfl
  refine (congrArg (fun n : Nat => IntKind.u32.wrap (n : Int)) h3).trans ?_
  exact wrap_wi (x ^^^ y)
theorem wi_or (x y : UInt32) : ibit .or .u32 (wi x) (wi y) = wi (x ||| y) := by
  have h3 : (BitVec.ofInt IntKind.u32.bits (wi x) ||| BitVec.ofInt IntKind.u32.bits (wi y)).toNat = (x ||| y).toNat := by
    rw [wi_of, wi_of]; rfl
  refine (congrArg (fun n : Nat => IntKind.u32.wrap (n : Int)) h3).trans ?_
  exact wrap_wi (x ||| y)
theorem wi_shl (x : UInt32) (k : Nat) (h : k ≤ 32) : ishl .u32 (wi x) (k : Int) = wi (shl x k) := by
  unfold ishl shl
  rw [wi_ofNat, u32_mod, show min (k : Int).toNat IntKind.u32.bits = k by simp [IntKind.bits]; omega]
  unfold wi
  simp
theorem wi_shr (x : UInt32) (k : Nat) (h : k ≤ 32) : ishr .u32 (wi x) (k : Int) = wi (shr x k) := by
  have e : ishr .u32 (wi x) (k : Int) = ((x.toNat / 2 ^ k : Nat) : Int) := ishr_nat .u32 x.toNat k h
  rw [e]
  unfold shr
  rw [wi_ofNat]
  have h1 : x.toNat / 2 ^ k ≤ x.toNat := Nat.div_le_self _ _
  have h2 := x.toNat_lt
  generalize x.toNat / 2 ^ k = q at *
  omega

theorem Rot16_ok (x : UInt32) : ECalls Tryd.prog 129 [WV x, NV (-16)] [] fun y H' => H' = [] ∧ y = WV (rotr x 16) := by
  have s1 : ishl .u32 (wi x) 16 = wi (shl x 16) := wi_shl x 16 (by omega)
  have r1 : ishr .u32 (wi x) 16 = wi (shr x 16) := wi_shr x 16 (by omega)
  have a1 : IntKind.u64.wrap (-16) = 18446744073709551600 := by decide +kernel
  have a2 : ibit .and .u64 18446744073709551600 31 = 16 := by decide +kernel
  have a3 : IntKind.u64.wrap 16 = 16 := by decide +kernel
  refine ecalls k_Rot ?_
  simp [c_Rot, WV, NV, a1, a2, a3, s1, r1, wi_or]
  exact fin [] (by decide) rfl rfl rfl ⟨rfl, rfl⟩

theorem Rot12_ok (x : UInt32) : ECalls Tryd.prog 129 [WV x, NV (-12)] [] fun y H' => H' = [] ∧ y = WV (rotr x 12) := by
  have s1 : ishl .u32 (wi x) 20 = wi (shl x 20) := wi_shl x 20 (by omega)
  have r1 : ishr .u32 (wi x) 12 = wi (shr x 12) := wi_shr x 12 (by omega)
  have a1 : IntKind.u64.wrap (-12) = 18446744073709551604 := by decide +kernel
  have a2 : ibit .and .u64 18446744073709551604 31 = 20 := by decide +kernel
  have a3 : IntKind.u64.wrap 12 = 12 := by decide +kernel
  refine ecalls k_Rot ?_
  simp [c_Rot, WV, NV, a1, a2, a3, s1, r1, wi_or]
  exact fin [] (by decide) rfl rfl rfl ⟨rfl, rfl⟩

theorem Rot8_ok (x : UInt32) : ECalls Tryd.prog 129 [WV x, NV (-8)] [] fun y H' => H' = [] ∧ y = WV (rotr x 8) := by
  have s1 : ishl .u32 (wi x) 24 = wi (shl x 24) := wi_shl x 24 (by omega)
  have r1 : ishr .u32 (wi x) 8 = wi (shr x 8) := wi_shr x 8 (by omega)
  have a1 : IntKind.u64.wrap (-8) = 18446744073709551608 := by decide +kernel
  have a2 : ibit .and .u64 18446744073709551608 31 = 24 := by decide +kernel
  have a3 : IntKind.u64.wrap 8 = 8 := by decide +kernel
  refine ecalls k_Rot ?_
  simp [c_Rot, WV, NV, a1, a2, a3, s1, r1, wi_or]
  exact fin [] (by decide) rfl rfl rfl ⟨rfl, rfl⟩

theorem Rot7_ok (x : UInt32) : ECalls Tryd.prog 129 [WV x, NV (-7)] [] fun y H' => H' = [] ∧ y = WV (rotr x 7) := by
  have s1 : ishl .u32 (wi x) 25 = wi (shl x 25) := wi_shl x 25 (by omega)
  have r1 : ishr .u32 (wi x) 7 = wi (shr x 7) := wi_shr x 7 (by omega)
  have a1 : IntKind.u64.wrap (-7) = 18446744073709551609 := by decide +kernel
  have a2 : ibit .and .u64 18446744073709551609 31 = 25 := by decide +kernel
  have a3 : IntKind.u64.wrap 7 = 7 := by decide +kernel
  refine ecalls k_Rot ?_
  simp [c_Rot, WV, NV, a1, a2, a3, s1, r1, wi_or]
  exact fin [] (by decide) rfl rfl rfl ⟨rfl, rfl⟩

def firstW : List UInt32 := [0x6a09e667, 0xbb67ae85, 0x3c6ef372, 0xa54ff53a, 0x510e527f, 0x9b05688c, 0x1f83d9ab, 0x5be0cd19]
theorem first_ok : ECalls Tryd.prog 99 [] [] fun y H' => H' = [] ∧ y = .v (.agg (wl firstW)) := by
  refine ecalls k_first ?_
  simp [c_first]
  exact fin [] (by decide) rfl rfl rfl ⟨rfl, rfl⟩

theorem pun_x32 (x : UInt32) : pun .xor (.int .u32 (wi x)) = some (.int .u32 (wi (~~~x))) := by
  have h3 : (BitVec.ofInt IntKind.u32.bits (-1) ^^^ BitVec.ofInt IntKind.u32.bits (wi x)).toNat = (~~~x).toNat := by
    rw [wi_of]
    have k : BitVec.allOnes 32 ^^^ x.toBitVec = ~~~ x.toBitVec := BitVec.allOnes_xor
    exact congrArg BitVec.toNat k
  simp only [pun, Option.some.injEq, Value.int.injEq, true_and]
  refine (congrArg (fun n : Nat => IntKind.u32.wrap (n : Int)) h3).trans ?_
  exact wrap_wi (~~~x)

/-! ### a step on four words -/
def g (v : List UInt32) (i : Nat) : UInt32 := (v[i]?).getD 0
def mixS (v : List UInt32) (a b c d : Nat) (x y : UInt32) : List UInt32 :=
  let v := v.set a (g v a + (g v b + x))
  let v := v.set d (rotr (g v d ^^^ g v a) 16)
  let v := v.set c (g v c + g v d)
  let v := v.set b (rotr (g v b ^^^ g v c) 12)
  let v := v.set a (g v a + (g v b + y))
  let v := v.set d (rotr (g v d ^^^ g v a) 8)
  let v := v.set c (g v c + g v d)
  v.set b (rotr (g v b ^^^ g v c) 7)
def VO (v : List UInt32) : EO := .box 196 (wl v)
theorem wl_put {v : List UInt32} {i : Nat} {x : UInt32} (h : i < v.length) : List.take i (wl v) ++ .fz (.lit (.int .u32 (wi x))) :: List.drop (i + 1) (wl v) = wl (v.set i x) := by
  rw [← wl_set, List.set_eq_take_append_cons_drop, if_pos (by simpa using h)]
theorem wl_g {v : List UInt32} {i : Nat} (h : i < v.length) : (wl v)[i]? = some (.fz (.lit (.int .u32 (wi (g v i))))) := by
  refine wl_get (x := g v i) ?_
  unfold g
  rw [List.getElem?_eq_getElem h]
  rfl
theorem wl_gE {v : List UInt32} {i : Nat} (h : i < v.length) (h2 : i < (wl v).length) : (wl v)[i]'h2 = .fz (.lit (.int .u32 (wi (g v i)))) := by
  have := wl_g h
  rw [List.getElem?_eq_getElem h2] at this
  exact Option.some.inj this

set_option maxRecDepth 8000 in
set_option maxHeartbeats 8000000 in
theorem mix_ok (v : List UInt32) (a b c d : Nat) (x y : UInt32) (hv : v.length = 16) (ha : a < 16) (hb : b < 16) (hc : c < 16) (hd : d < 16) : ECalls Tryd.prog 124 [.v (.c (.ptr 0 0)), NV a, NV b, NV c, NV d, WV x, WV y] [VO v] fun y' H' => H' = [some (VO (mixS v a b c d x y))] ∧ y' = .tup [] := by
  have la : a < v.length := by omega
  have lb : b < v.length := by omega
  have lc : c < v.length := by omega
  have ld : d < v.length := by omega
  have xa : a ≤ 15 := by omega
  have xb : b ≤ 15 := by omega
  have xc : c ≤ 15 := by omega
  have xd : d ≤ 15 := by omega
  have ia : (a : Int) < 16 := by omega
  have ib : (b : Int) < 16 := by omega
  have ic : (c : Int) < 16 := by omega
  have id' : (d : Int) < 16 := by omega
  obtain ⟨v1, h1⟩ : ∃ w, v.set a (g v a + (g v b + x)) = w := ⟨_, rfl⟩
  have e1 : v1.length = 16 := by rw [← h1, List.length_set]; exact hv
  obtain ⟨v2, h2⟩ : ∃ w, v1.set d (rotr (g v1 d ^^^ g v1 a) 16) = w := ⟨_, rfl⟩
  have e2 : v2.length = 16 := by rw [← h2, List.length_set]; exact e1
  obtain ⟨v3, h3⟩ : ∃ w, v2.set c (g v2 c + g v2 d) = w := ⟨_, rfl⟩
  have e3 : v3.length = 16 := by rw [← h3, List.length_set]; exact e2
  obtain ⟨v4, h4⟩ : ∃ w, v3.set b (rotr (g v3 b ^^^ g v3 c) 12) = w := ⟨_, rfl⟩
  have e4 : v4.length = 16 := by rw [← h4, List.length_set]; exact e3
  obtain ⟨v5, h5⟩ : ∃ w, v4.set a (g v4 a + (g v4 b + y)) = w := ⟨_, rfl⟩
  have e5 : v5.length = 16 := by rw [← h5, List.length_set]; exact e4
  obtain ⟨v6, h6⟩ : ∃ w, v5.set d (rotr (g v5 d ^^^ g v5 a) 8) = w := ⟨_, rfl⟩
  have e6 : v6.length = 16 := by rw [← h6, List.length_set]; exact e5
  obtain ⟨v7, h7⟩ : ∃ w, v6.set c (g v6 c + g v6 d) = w := ⟨_, rfl⟩
  have e7 : v7.length = 16 := by rw [← h7, List.length_set]; exact e6
  obtain ⟨v8, h8⟩ : ∃ w, v7.set b (rotr (g v7 b ^^^ g v7 c) 7) = w := ⟨_, rfl⟩
  have e8 : v8.length = 16 := by rw [← h8, List.length_set]; exact e7
  have hm : mixS v a b c d x y = v8 := by unfold mixS; simp only [h1, h2, h3, h4, h5, h6, h7, h8]
  rw [hm]
  refine ecalls k_mix ?_
  simp [c_mix, NV, WV, VO, hv, e1, e2, e3, e4, e5, e6, e7, e8, ha, hb, hc, hd, ia, ib, ic, id', xa, xb, xc, xd, wl_gE, wl_put, la, lb, lc, ld, wi_add, wi_xor, h1, h2, h3, h4, h5, h6, h7, h8]
  refine call0 (Rot16_ok (g v1 d ^^^ g v1 a)) (by simp [WV, NV]) ?_
  rintro y' H' ⟨rfl, rfl⟩
  refine ⟨.inl (by simp), le_ok rfl, ?_⟩
  simp [NV, WV, VO, hv, e1, e2, e3, e4, e5, e6, e7, e8, ha, hb, hc, hd, ia, ib, ic, id', xa, xb, xc, xd, wl_gE, wl_put, la, lb, lc, ld, wi_add, wi_xor, h1, h2, h3, h4, h5, h6, h7, h8]
  refine call0 (Rot12_ok (g v3 b ^^^ g v3 c)) (by simp [WV, NV]) ?_
  rintro y' H' ⟨rfl, rfl⟩
  refine ⟨.inl (by simp), le_ok rfl, ?_⟩
  simp [NV, WV, VO, hv, e1, e2, e3, e4, e5, e6, e7, e8, ha, hb, hc, hd, ia, ib, ic, id', xa, xb, xc, xd, wl_gE, wl_put, la, lb, lc, ld, wi_add, wi_xor, h1, h2, h3, h4, h5, h6, h7, h8]
  refine call0 (Rot8_ok (g v5 d ^^^ g v5 a)) (by simp [WV, NV]) ?_
  rintro y' H' ⟨rfl, rfl⟩
  refine ⟨.inl (by simp), le_ok rfl, ?_⟩
  simp [NV, WV, VO, hv, e1, e2, e3, e4, e5, e6, e7, e8, ha, hb, hc, hd, ia, ib, ic, id', xa, xb, xc, xd, wl_gE, wl_put, la, lb, lc, ld, wi_add, wi_xor, h1, h2, h3, h4, h5, h6, h7, h8]
  refine call0 (Rot7_ok (g v7 b ^^^ g v7 c)) (by simp [WV, NV]) ?_
  rintro y' H' ⟨rfl, rfl⟩
  refine ⟨.inl (by simp), le_ok rfl, ?_⟩
  simp [NV, WV, VO, hv, e1, e2, e3, e4, e5, e6, e7, e8, ha, hb, hc, hd, ia, ib, ic, id', xa, xb, xc, xd, wl_gE, wl_put, la, lb, lc, ld, wi_add, wi_xor, h1, h2, h3, h4, h5, h6, h7, h8]
  exact fin [] (by decide) rfl rfl (by simp [objsOut]) ⟨rfl, rfl⟩

end Go.Proofs.YtpohjnhlhfbnaaaDoor
