import Derived.Test.YtpohjnhlhfbnaaaState4
namespace Go.Proofs.Ytpohjnhlhfbnaaa
open Go Go.EW
def Sta.small (s : Sta) : Prop := s.pays.length ≤ 1000 ∧ s.holds.length ≤ 1000 ∧ ∀ h ∈ s.holds, h.keys.length ≤ 1000
def RE (q : Sta × Nat) : EV := .tup [.agg (staC q.1), .c (.fz (.lit (.int .i64 (q.2 : Int))))]
end Go.Proofs.Ytpohjnhlhfbnaaa
