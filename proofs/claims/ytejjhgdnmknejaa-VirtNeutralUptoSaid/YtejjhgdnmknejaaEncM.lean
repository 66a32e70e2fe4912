import Derived.Test.YtejjhgdnmknejaaEwS
import Derived.Test.YtejjhgdnmknejaaEwT
import Derived.Test.YtejjhgdnmknejaaEwX
import Derived.Test.YtejjhgdnmknejaaProg
namespace Go.Proofs.Ytejjhgdnmknejaa
open Go Go.EW
set_option linter.unusedSimpArgs false
def R (o : Nat) (l : List UInt8) : EV := .v (.c (.row o l.length))
def RO (l : List UInt8) : EO := .row 5 1 (bsv l)
def Ptr (o : Nat) : EV := .v (.c (.ptr o 0))

def errV (e : Nat) : Value := if e = 0 then .nilIface else .iface 59 (.int .i64 e)
@[simp] theorem eqiv_errV (e : Nat) : eqiv (errV e) = some (decide (e = 0)) := by
  unfold errV
  split <;> simp [eqiv, *]
@[simp] theorem cst_errV (e : Nat) : cst (errV e) = .v (.c (.fz (.lit (errV e)))) := by
  unfold errV
  split <;> rfl
@[simp] theorem errV_0 : Value.nilIface = errV 0 := rfl
@[simp] theorem errV_1 : Value.iface 59 (.int .i64 1) = errV 1 := rfl
@[simp] theorem errV_2 : Value.iface 59 (.int .i64 2) = errV 2 := rfl
@[simp] theorem errV_3 : Value.iface 59 (.int .i64 3) = errV 3 := rfl

theorem drop_cons {α : Type} {b : List α} {i : Nat} {c : α} (h : b[i]? = some c) : b.drop i = c :: b.drop (i + 1) := by
  have hi : i < b.length := lt_len h
  rw [List.drop_eq_getElem_cons hi]
  congr 1
  rw [List.getElem?_eq_getElem hi] at h
  exact Option.some.inj h

end Go.Proofs.Ytejjhgdnmknejaa
