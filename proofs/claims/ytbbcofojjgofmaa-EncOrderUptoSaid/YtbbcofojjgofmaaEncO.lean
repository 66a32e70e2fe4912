import Derived.Test.YtbbcofojjgofmaaRows
import Derived.Test.YtbbcofojjgofmaaEwW
import Derived.Test.YtbbcofojjgofmaaEnc6
import Derived.WalkKit
import Derived.ProofKit
import Derived.JoinedCond
namespace Go.Proofs.Ytbbcofojjgofmaa
open Go Go.EW
set_option linter.unusedSimpArgs false

theorem bok : BOk (fun H d => Rows.uptoBulk (H := H) d) (fun H ds => Rows.uptoBulkAll (H := H) ds) where
  lit := by intro H x; cases x <;> simp [Rows.uptoBulk]
  str := by intro H l; simp [Rows.uptoBulk]
  nil := by intro H; simp [Rows.uptoBulk]
  sl := by intro H es sp; simp only [Rows.uptoBulk]; omega
  agg := by intro H ps; simp [Rows.uptoBulk]
  cons := by intro H d r; simp [Rows.uptoBulkAll]

theorem kids : Kids Try.prog (· < Try.prog.types.size) := kids_rows (by kernel_rfl) (by kernel_rfl)
theorem full : ∀ t e, t < Try.prog.types.size → Try.prog.underlying t = some (.slice e) → 0 < Try.prog.cellsOf e := slices_full_of Try.prog (by kernel_rfl)

abbrev BB : (H : Type) → DataW H → Nat := fun H d => Rows.uptoBulk (H := H) d
abbrev BBA : (H : Type) → List (DataW H) → Nat := fun H ds => Rows.uptoBulkAll (H := H) ds

theorem opn_u8 : Opn BB Try.prog 5 cb (fun _ : UInt8 => True) (fun _ => 1) :=
  (opn_int bok (k := .u8) (by kernel_rfl)).map (fun n => UInt8.ofNat n.toNat) (by
    intro n h
    have := bounds_u8 h
    simp only [cb]
    have e : ((UInt8.ofNat n.toNat).toNat : Int) = n := by simp; omega
    rw [e]) (fun _ _ => trivial) (fun _ _ => Nat.le_refl _)
theorem sumB_one {α : Type} (l : List α) : sumB (fun _ => 1) l = l.length := by
  induction l with
  | nil => rfl
  | cons x r ih => simp only [sumB, ih, List.length_cons]; omega
theorem opn_bytes : Opn BB Try.prog 25 (fun l : List UInt8 => [FV.sl 1 (bsv l)]) (fun _ => True) (fun l => l.length + 1) :=
  (opn_slice bok (e := 5) (es := 1) (by kernel_rfl) (by kernel_rfl) (by omega) opn_u8).map id (fun _ _ => rfl) (fun _ _ => trivial) (fun l _ => by rw [sumB_one]; exact Nat.le_refl _)
theorem hf_flat (l : List UInt8) : hf l = l.flatMap cb := by
  induction l with
  | nil => rfl
  | cons x r ih => simp only [hf, List.map_cons, List.flatMap_cons] at *; rw [← ih]; rfl
theorem opn_hash : Opn BB Try.prog 28 hf (fun l : List UInt8 => l.length = 32) (fun _ => 1) :=
  (opn_array bok (e := 5) (es := 1) (n := 32) (by kernel_rfl) (by kernel_rfl) (by kernel_rfl) opn_u8).map id (fun l _ => hf_flat l) (fun _ h => h.2) (fun _ _ => by omega)
theorem opn_i64 : Opn BB Try.prog 3 (fun n : Int => [FV.lit (.int .i64 n)]) (fun n => -9223372036854775808 ≤ n ∧ n ≤ 9223372036854775807) (fun _ => 1) :=
  (opn_int bok (k := .i64) (by kernel_rfl)).map id (fun _ _ => rfl) (fun _ h => bounds_i64 h) (fun _ _ => Nat.le_refl _)

def Th.ok0 (x : Th) : Prop := -9223372036854775808 ≤ x.kind ∧ x.kind ≤ 9223372036854775807 ∧ -9223372036854775808 ≤ x.n ∧ x.n ≤ 9223372036854775807 ∧ x.h.length = 32
def thS (x : Th) : Nat := x.b.length
theorem opn_th : Opn BB Try.prog 30 thF Th.ok0 thS :=
  (opn_struct (tot := 35) bok Try.underlying30 (by kernel_rfl)
    (opnFs_cons bok (n := 1) (tot := 34) opn_i64 rfl (by kernel_rfl) (opnFs_cons bok (n := 1) (tot := 33) opn_i64 rfl (by kernel_rfl)
      (opnFs_cons bok (n := 1) (tot := 32) opn_bytes rfl (by kernel_rfl) (opnFs_cons bok (n := 32) (tot := 0) opn_hash rfl (by kernel_rfl) opnFs_nil))))).map
    (fun p => (⟨p.1, p.2.1, p.2.2.1, p.2.2.2.1⟩ : Th)) (by rintro ⟨a, b, c, d, u⟩ _; simp [thF]) (by rintro ⟨a, b, c, d, u⟩ h; exact ⟨h.1.1, h.1.2, h.2.1.1, h.2.1.2, h.2.2.2.1⟩) (by rintro ⟨a, b, c, d, u⟩ _; simp [thS]; omega)
theorem opn_ths : Opn BB Try.prog 22 (fun l : List Th => [FV.sl 35 (l.map thF)]) (fun l => (∀ x ∈ l, x.ok0) ∧ l.length ≤ maxLen) (fun l => sumB thS l + 1) :=
  opn_slice bok (by kernel_rfl) (by kernel_rfl) (by omega) opn_th

theorem ths_ok {l : List Th} (h : ∀ x ∈ l, x.ok0) (hb : sumB thS l ≤ 1048576) : (∀ x ∈ l, x.ok) ∧ bulk (l.take 200) ≤ 800000000 := by
  have h1 : ∀ (l : List Th), ∀ x ∈ l, x.b.length ≤ sumB thS l := by
    intro l
    induction l with
    | nil => simp
    | cons y r ih =>
      intro x hx
      simp only [sumB, thS]
      rcases List.mem_cons.1 hx with rfl | hx
      · omega
      · have := ih x hx; omega
  have h2 : ∀ (l : List Th), bulk l ≤ 40 * l.length + 2 * sumB thS l := by
    intro l
    induction l with
    | nil => simp [bulk]
    | cons y r ih => simp only [bulk, sumB, thS, List.length_cons]; omega
  have h3 : ∀ (l : List Th) (n : Nat), sumB thS (l.take n) ≤ sumB thS l := by
    intro l
    induction l with
    | nil => simp [sumB]
    | cons y r ih => intro n; cases n with
      | zero => simp [sumB]
      | succ n => have := ih n; simp only [List.take_succ_cons, sumB]; omega
  refine ⟨fun x hx => ?_, ?_⟩
  · obtain ⟨q1, q2, q3, q4, q5⟩ := h x hx
    have := h1 l x hx
    exact ⟨q1, q2, q3, q4, by omega, q5⟩
  · have q1 := h2 (l.take 200)
    have q2 := h3 l 200
    have q3 : (l.take 200).length ≤ 200 := by simp; omega
    omega

end Go.Proofs.Ytbbcofojjgofmaa
