import Derived.Test.YtpilpjameifcfaaDoorPEnc11
namespace Go.Proofs.YtpilpjameifcfaaDoor
open Go Go.EW
set_option linter.unusedSimpArgs false
set_option linter.unusedVariables false
/- The readers, whether an error is there already or not. -/

def uS (b : List UInt8) (e most : Nat) : Nat × Nat × Nat := if e ≠ 0 then (e, 0, 0) else numS b most
def jS (b : List UInt8) (e : Nat) : Nat × Int × Nat := if e ≠ 0 then (e, 0, 0) else intS b
def nS (b : List UInt8) (e : Nat) (most : Int) : Nat × Nat × Nat := if e ≠ 0 then (e, 0, 0) else cntS b most
def yS (b : List UInt8) (e : Nat) (most : Int) : Nat × List UInt8 × Nat := if e ≠ 0 then (e, [], 0) else bytZ b most
def aS (b : List UInt8) (e : Nat) : Nat × List UInt8 × Nat := if e ≠ 0 then (e, hz, 0) else hashS b

theorem RdInt_all (l : List UInt8) (p e : Nat) (hp : p ≤ l.length) (hl : l.length ≤ 1000000000) : ECalls Tryd.prog 33 [Ptr 0] [RdO l p e] fun y H' => H' = [some (RdO l (p + (jS (l.drop p) e).2.2) (jS (l.drop p) e).1)] ∧ y = I .i64 (jS (l.drop p) e).2.1 := by
  by_cases he : e = 0
  · subst he; exact RdInt_ok l p hp hl
  · simp only [jS, if_pos he]; exact RdInt_off l p e he

theorem RdBytes_all (l : List UInt8) (p e : Nat) (most : Int) (hp : p ≤ l.length) (hl : l.length ≤ 1000000000) : ECalls Tryd.prog 34 [Ptr 0, I .i64 most] [RdO l p e] fun y H' => H' = [some (RdO l (p + (yS (l.drop p) e most).2.2) (yS (l.drop p) e most).1)] ∧ y = Bs (yS (l.drop p) e most).2.1 := by
  by_cases he : e = 0
  · subst he; exact RdBytes_ok l p most hp hl
  · simp only [yS, if_pos he]; exact RdBytes_off l p e most he

theorem RdHash_all (l : List UInt8) (p e : Nat) (hp : p ≤ l.length) (hl : l.length ≤ 1000000000) : ECalls Tryd.prog 35 [Ptr 0] [RdO l p e] fun y H' => H' = [some (RdO l (p + (aS (l.drop p) e).2.2) (aS (l.drop p) e).1)] ∧ y = Ag (aS (l.drop p) e).2.1 := by
  by_cases he : e = 0
  · subst he; exact RdHash_ok l p hp hl
  · simp only [aS, if_pos he]; exact RdHash_off l p e he

theorem RReadInt_all (b : List UInt8) (e : Nat) (hl : b.length ≤ 1000000000) : ECalls Tryd.prog 37 [RV b e] [] fun y H' => H' = [] ∧ y = .tup [.agg (rvC (b.drop (jS b e).2.2) (jS b e).1), .c (.fz (.lit (.int .i64 (jS b e).2.1)))] := by
  by_cases he : e = 0
  · subst he; exact RReadInt_ok b hl
  · simp only [jS, if_pos he]; exact RReadInt_off b e he

theorem RReadBytes_all (b : List UInt8) (e : Nat) (most : Int) (hl : b.length ≤ 1000000000) : ECalls Tryd.prog 39 [RV b e, I .i64 most] [] fun y H' => H' = [] ∧ y = .tup [.agg (rvC (b.drop (yS b e most).2.2) (yS b e most).1), .c (.fz (.sl 1 (bsv (yS b e most).2.1)))] := by
  by_cases he : e = 0
  · subst he; exact RReadBytes_ok b most hl
  · simp only [yS, if_pos he]; exact RReadBytes_off b e most he

theorem RReadHash_all (b : List UInt8) (e : Nat) (hl : b.length ≤ 1000000000) : ECalls Tryd.prog 38 [RV b e] [] fun y H' => H' = [] ∧ y = .tup [.agg (rvC (b.drop (aS b e).2.2) (aS b e).1), .agg (hc (aS b e).2.1)] := by
  by_cases he : e = 0
  · subst he; exact RReadHash_ok b hl
  · simp only [aS, if_pos he]; exact RReadHash_off b e he

end Go.Proofs.YtpilpjameifcfaaDoor
