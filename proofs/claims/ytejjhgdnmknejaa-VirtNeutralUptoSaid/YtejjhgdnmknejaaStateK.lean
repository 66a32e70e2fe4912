import Derived.Test.YtejjhgdnmknejaaStateJ
namespace Go.Proofs.Ytejjhgdnmknejaa
open Go Go.EW
set_option linter.unusedSimpArgs false
set_option linter.unusedVariables false

def zPay : Pay := ⟨0, 0, 0, 0, hz⟩
def delP (l : List Pay) (x : Int) : List Pay := l.take (posI (l.map (·.id)) x) ++ l.drop (posI (l.map (·.id)) x + 1)
/-- A payment taken out; the error. -/
def takS (s : Sta) (x : Int) : Sta × Pay × Nat :=
  if (nxt s).2 ≠ 0 then (zSta, zPay, 1) else if fndI (s.pays.map (·.id)) x = false then (zSta, zPay, 8)
  else (⟨s.num + 1, s.h0, s.h1, delP s.pays x, s.holds⟩, (s.pays[posI (s.pays.map (·.id)) x]?).getD zPay, 0)
def SP (q : Sta × Pay × Nat) : EV := .tup [.agg (staC q.1), .agg (payC q.2.1), .c (.fz (.lit (errV q.2.2)))]
theorem fzE_payC (o es : Nat) (xs : List (List FV)) (p : Pay) : (payC p).map (fzE o es xs) = payC p := by simp [payC, hc]
theorem payv_del (l : List Pay) (x : Int) : payv (delP l x) = (payv l).take (posI (l.map (·.id)) x) ++ (payv l).drop (posI (l.map (·.id)) x + 1) := by simp [payv, delP]

/-- A payment given back; the error. -/
def falS (s : Sta) (x : Int) : Sta × Nat :=
  if (takS s x).2.2 ≠ 0 then (zSta, (takS s x).2.2) else (⟨(takS s x).1.num, if (takS s x).2.1.fr = 0 then s.h0 + (takS s x).2.1.am else s.h0, if (takS s x).2.1.fr = 0 then s.h1 else s.h1 + (takS s x).2.1.am, (takS s x).1.pays, s.holds⟩, 0)
theorem payL_sum : ∀ {o : Option Int} {l : List Pay}, payL o l = true → ∀ p ∈ l, p.am ≤ sumP l
  | o, [], _, p, hp => by simp at hp
  | o, a :: r, h, p, hp => by
    simp only [payL, Bool.and_eq_true] at h
    have h1 := mayP_am h.1.1
    have h2 := sumP_nn h.2
    have e : sumP (a :: r) = a.am + sumP r := by simp [sumP]
    rcases List.mem_cons.1 hp with rfl | hp
    · omega
    · have := payL_sum h.2 p hp
      omega
theorem payL_mem : ∀ {o : Option Int} {l : List Pay}, payL o l = true → ∀ p ∈ l, mayP p = true
  | o, [], _, p, hp => by simp at hp
  | o, q :: r, h, p, hp => by
    simp only [payL, Bool.and_eq_true] at h
    rcases List.mem_cons.1 hp with rfl | hp
    · exact h.1.1
    · exact payL_mem h.2 p hp

end Go.Proofs.Ytejjhgdnmknejaa
