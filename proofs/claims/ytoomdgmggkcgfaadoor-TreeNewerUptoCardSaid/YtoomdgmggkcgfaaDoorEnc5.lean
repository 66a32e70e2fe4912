import Derived.Test.YtoomdgmggkcgfaaDoorEnc2
namespace Go.Proofs.YtoomdgmggkcgfaaDoor
open Go Go.EW
set_option linter.unusedSimpArgs false



/-- An error, by its number. -/
def errV (e : Nat) : Value := if e = 0 then .nilIface else .iface 80 (.int .i64 e)
@[simp] theorem eqiv_errV (e : Nat) : eqiv (errV e) = some (decide (e = 0)) := by
  unfold errV
  split <;> simp [eqiv, *]
@[simp] theorem cst_errV (e : Nat) : cst (errV e) = .v (.c (.fz (.lit (errV e)))) := by
  unfold errV
  split <;> rfl
@[simp] theorem errV_0 : Value.nilIface = errV 0 := rfl
@[simp] theorem errV_1 : Value.iface 80 (.int .i64 1) = errV 1 := rfl
@[simp] theorem errV_2 : Value.iface 80 (.int .i64 2) = errV 2 := rfl
@[simp] theorem errV_3 : Value.iface 80 (.int .i64 3) = errV 3 := rfl
@[simp] theorem errV_4 : Value.iface 80 (.int .i64 4) = errV 4 := rfl
@[simp] theorem errV_12 : Value.iface 80 (.int .i64 12) = errV 12 := rfl

/-- Bytes as a number. -/
def valB (l : List UInt8) : Nat := l.foldl (fun n c => 256 * n + c.toNat) 0
/-- So many bytes, each turned: the number; an error. -/
def lowS (b : List UInt8) (many : Nat) (mask : UInt8) : Nat × Nat :=
  if b.length < many then (0, 12) else if 0 < many ∧ b[0]? = some mask then (0, 3) else (valB ((b.take many).map (· ^^^ mask)), 0)
theorem val_snoc (l : List UInt8) (c : UInt8) : valB (l ++ [c]) = 256 * valB l + c.toNat := by simp [valB]
theorem val_lt (l : List UInt8) : valB l < 256 ^ l.length := by
  have key : ∀ (l : List UInt8) (n k : Nat), n < 256 ^ k → l.foldl (fun n c => 256 * n + c.toNat) n < 256 ^ (k + l.length) := by
    intro l
    induction l with
    | nil => intro n k h; simpa using h
    | cons c r ih =>
      intro n k h
      have hc := c.toNat_lt
      have := ih (256 * n + c.toNat) (k + 1) (by rw [Nat.pow_succ]; simp at hc; omega)
      rw [List.foldl_cons, List.length_cons, show k + (r.length + 1) = k + 1 + r.length by omega]
      exact this
  have := key l 0 0 (by simp)
  simpa [valB] using this
theorem or_byte (n : Nat) (c : UInt8) (h : 256 * n + 256 ≤ 18446744073709551616) : ibit .or .u64 (ishl .u64 (n : Int) 8) (c.toNat : Int) = ((256 * n + c.toNat : Nat) : Int) := by
  have hc := c.toNat_lt
  simp at hc
  have e1 : ishl .u64 (n : Int) 8 = ((256 * n : Nat) : Int) := by
    simp only [ishl]
    rw [show min (8 : Int).toNat IntKind.u64.bits = 8 from rfl, wrap_u64 (by omega) (by omega)]
    omega
  rw [e1]
  simp only [ibit]
  have e2 : (BitVec.ofInt IntKind.u64.bits ((256 * n : Nat) : Int) ||| BitVec.ofInt IntKind.u64.bits (c.toNat : Int)).toNat = 256 * n + c.toNat := by
    rw [BitVec.toNat_or, BitVec.ofInt_natCast, BitVec.ofInt_natCast, BitVec.toNat_ofNat, BitVec.toNat_ofNat, Nat.mod_eq_of_lt (show 256 * n < 2 ^ IntKind.u64.bits by simp [IntKind.bits]; omega), Nat.mod_eq_of_lt (show c.toNat < 2 ^ IntKind.u64.bits by simp [IntKind.bits]; omega)]
    have := Nat.shiftLeft_add_eq_or_of_lt (b := c.toNat) (i := 8) (by omega) n
    rw [Nat.shiftLeft_eq] at this
    rw [show 256 * n = n * 2 ^ 8 by omega]
    exact this.symm
  rw [e2, wrap_u64 (by omega) (by omega)]

/-- The int that bytes begin with: the error, the int, how many bytes it takes. -/
def intS (b : List UInt8) : Nat × Int × Nat :=
  match b with
  | [] => (12, 0, 0)
  | c :: r =>
    let many := if 128 ≤ c.toNat then c.toNat - 128 else 127 - c.toNat
    if 8 < many then (3, 0, 0) else
    let q := lowS r many (if 128 ≤ c.toNat then 0 else 255)
    if q.2 ≠ 0 then (q.2, 0, 0) else if 9223372036854775807 < q.1 then (4, 0, 0) else (0, if 128 ≤ c.toNat then (q.1 : Int) else -(q.1 : Int) - 1, 1 + many)

end Go.Proofs.YtoomdgmggkcgfaaDoor
