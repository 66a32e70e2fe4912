import Derived.Test.YtejjhgdnmknejaaRows
import Derived.Test.YtejjhgdnmknejaaEwW
import Derived.Test.YtejjhgdnmknejaaEwX
import Derived.WalkKit
import Derived.ProofKit
import Derived.JoinedCond
namespace Go.Proofs.Ytejjhgdnmknejaa
open Go Go.EW
set_option linter.unusedSimpArgs false

theorem bok : BOk (fun H d => Rows.uptoBulk (H := H) d) (fun H ds => Rows.uptoBulkAll (H := H) ds) where
  lit := by intro H x; cases x <;> simp [Rows.uptoBulk]
  str := by intro H l; simp [Rows.uptoBulk]
  nil := by intro H; simp [Rows.uptoBulk]
  sl := by intro H es sp; simp only [Rows.uptoBulk]; omega
  agg := by intro H ps; simp [Rows.uptoBulk]
  cons := by intro H d r; simp [Rows.uptoBulkAll]

theorem kids : Kids Try.prog (· < Try.prog.types.size) := kids_rows (by kernel_rfl) (by kernel_rfl)
theorem full : ∀ t e, t < Try.prog.types.size → Try.prog.underlying t = some (.slice e) → 0 < Try.prog.cellsOf e := slices_full_of Try.prog (by kernel_rfl)
theorem own : ownKnob Try.prog.godebug = none := by kernel_rfl

abbrev BB : (H : Type) → DataW H → Nat := fun H d => Rows.uptoBulk (H := H) d
abbrev BBA : (H : Type) → List (DataW H) → Nat := fun H ds => Rows.uptoBulkAll (H := H) ds

theorem opn_u8 : Opn BB Try.prog 5 cb (fun _ : UInt8 => True) (fun _ => 1) :=
  (opn_int bok (k := .u8) (by kernel_rfl)).map (fun n => UInt8.ofNat n.toNat) (by
    intro n h
    have := bounds_u8 h
    simp only [cb]
    have e : ((UInt8.ofNat n.toNat).toNat : Int) = n := by simp; omega
    rw [e]) (fun _ _ => trivial) (fun _ _ => Nat.le_refl _)

theorem sumB_one {α : Type} (l : List α) : sumB (fun _ => 1) l = l.length := by
  induction l with
  | nil => rfl
  | cons x r ih => simp only [sumB, ih, List.length_cons]; omega

theorem hf_flat (l : List UInt8) : hf l = l.flatMap cb := by
  induction l with
  | nil => rfl
  | cons x r ih => simp only [hf, List.map_cons, List.flatMap_cons] at *; rw [← ih]; rfl

theorem opn_hash : Opn BB Try.prog 25 hf (fun l : List UInt8 => l.length = 32) (fun _ => 1) :=
  (opn_array bok (e := 5) (es := 1) (n := 32) (by kernel_rfl) (by kernel_rfl) (by kernel_rfl) opn_u8).map id (fun l _ => hf_flat l) (fun _ h => h.2) (fun _ _ => by omega)

theorem opn_i64 : Opn BB Try.prog 3 (fun n : Int => [FV.lit (.int .i64 n)]) (fun n => -9223372036854775808 ≤ n ∧ n ≤ 9223372036854775807) (fun _ => 1) :=
  (opn_int bok (k := .i64) (by kernel_rfl)).map id (fun _ _ => rfl) (fun _ h => bounds_i64 h) (fun _ _ => Nat.le_refl _)

theorem opn_u64 : Opn BB Try.prog 99 (fun n : Nat => [FV.lit (.int .u64 (n : Int))]) (fun n => n < 18446744073709551616) (fun _ => 1) :=
  (opn_int bok (k := .u64) (by kernel_rfl)).map (fun n => n.toNat) (fun n h => by
    have := bounds_u64 h
    show [FV.lit (.int .u64 ((n.toNat : Nat) : Int))] = [FV.lit (.int .u64 n)]
    rw [show ((n.toNat : Nat) : Int) = n by omega]) (fun n h => by have := bounds_u64 h; omega) (fun _ _ => Nat.le_refl _)

end Go.Proofs.Ytejjhgdnmknejaa
