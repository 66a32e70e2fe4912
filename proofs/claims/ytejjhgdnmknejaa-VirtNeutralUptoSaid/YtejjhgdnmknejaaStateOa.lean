import Derived.Test.YtejjhgdnmknejaaStateM
import Derived.Test.YtejjhgdnmknejaaRbFz
namespace Go.Proofs.Ytejjhgdnmknejaa
open Go Go.EW
set_option linter.unusedSimpArgs false
set_option linter.unusedVariables false

@[simp] theorem conAll_holC (H : Nat → Option EO) (ids : List Nat) (p : Hol) : conAll H ids (holC p) = some (holC p) := by simp [holC]
@[simp] theorem strAll_holC (ids : List Nat) (p : Hol) : strAll ids (holC p) = some (holC p) := by simp [holC, strAll, strC]
@[simp] theorem frzAll_holC (p : Hol) : frzAll (holC p) = some (holF p) := by simp [holC, holF, frzAll, frz]
@[simp] theorem refs_holC (p : Hol) : (holC p).flatMap refsC = [] := by simp [holC]
@[simp] theorem fz_holC (ids : List Nat) (p : Hol) : (holC p).flatMap (fzC ids) = [] := by simp [holC]
@[simp] theorem ren_holC (g : Nat → Nat) (p : Hol) : (holC p).map (renC g) = holC p := by simp [holC]
theorem holL_lo : ∀ {o : Option Int} {l : List Hol}, holL o l = true → ∀ p ∈ l, ∀ q, o = some q → q < p.id
  | o, [], _, p, hp, q, _ => by simp at hp
  | o, a :: r, h, p, hp, q, hq => by
    simp only [holL, Bool.and_eq_true] at h
    have ha : q < a.id := by
      have := h.1.2
      rw [hq] at this
      exact of_decide_eq_true this
    rcases List.mem_cons.1 hp with rfl | hp
    · exact ha
    · have := holL_lo h.2 p hp a.id rfl
      omega
theorem holL_pw : ∀ {o : Option Int} {l : List Hol}, holL o l = true → (l.map (·.id)).Pairwise (· < ·)
  | o, [], _ => by simp
  | o, a :: r, h => by
    simp only [holL, Bool.and_eq_true] at h
    simp only [List.map_cons, List.pairwise_cons]
    refine ⟨?_, holL_pw h.2⟩
    intro y hy
    obtain ⟨p, hp, rfl⟩ := List.mem_map.1 hy
    exact holL_lo h.2 p hp a.id rfl
theorem holL_mem : ∀ {o : Option Int} {l : List Hol}, holL o l = true → ∀ p ∈ l, mayH p = true
  | o, [], _, p, hp => by simp at hp
  | o, q :: r, h, p, hp => by
    simp only [holL, Bool.and_eq_true] at h
    rcases List.mem_cons.1 hp with rfl | hp
    · exact h.1.1
    · exact holL_mem h.2 p hp
theorem holL_iff : ∀ {o : Option Int} {l : List Hol}, holL o l = true ↔ (∀ p ∈ l, mayH p = true) ∧ (l.map Hol.id).Pairwise (· < ·) ∧ ∀ q, o = some q → ∀ p ∈ l, q < p.id := by
  intro o l
  constructor
  · intro h
    exact ⟨holL_mem h, holL_pw h, fun q hq p hp => holL_lo h p hp q hq⟩
  · revert o
    induction l with
    | nil => intro o _; rfl
    | cons a r ih =>
      rintro o ⟨h1, h2, h3⟩
      simp only [List.map_cons, List.pairwise_cons] at h2
      have ha : aft o a.id = true := by
        cases o with
        | none => rfl
        | some q => exact decide_eq_true (h3 q rfl a (by simp))
      simp only [holL, h1 a (by simp), ha, Bool.true_and]
      exact ih ⟨fun p hp => h1 p (by simp [hp]), h2.2, fun q hq p hp => by
        obtain rfl := Option.some.inj hq
        exact h2.1 p.id (List.mem_map.2 ⟨p, hp, rfl⟩)⟩
/-- A hold kept; the error. -/
def keeS (s : Sta) (who : Int) (h : Hol) : Sta × Nat :=
  if (nxt s).2 ≠ 0 then (zSta, 1) else if ¬ (who = 0 ∨ who = 1) then (zSta, 33) else if h.am < 10 then (zSta, 27) else if mayH h = false then (zSta, 1)
  else if fndI (s.holds.map (·.id)) h.id = true then (zSta, 9) else if 8 ≤ s.pays.length + s.holds.length then (zSta, 30) else if sideS s who < h.am then (zSta, 20)
  else (⟨s.num + 1, if who = 0 then s.h0 - h.am else s.h0, if who = 0 then s.h1 else s.h1 - h.am, s.pays, insA Hol.id s.holds h⟩, 0)
theorem holv_ins (l : List Hol) (h : Hol) : holv (insA Hol.id l h) = (holv l).take (posI (l.map (·.id)) h.id) ++ holF h :: (holv l).drop (posI (l.map (·.id)) h.id) := by simp [holv, insA]
theorem holv_del (l : List Hol) (x : Int) : holv (delA Hol.id l x) = (holv l).take (posI (l.map (·.id)) x) ++ (holv l).drop (posI (l.map (·.id)) x + 1) := by simp [holv, delA]
theorem hc0' (h : Hol) : holC h = [.fz (.lit (.int .i64 h.id)), .fz (.lit (.int .i64 h.am)), .fz (.sl 1 (intv h.keys))] := rfl

/-- A hold freed; the error. -/
def freS (s : Sta) (x a : Int) : Sta × Nat :=
  if (nxt s).2 ≠ 0 then (zSta, 1) else match s.holds[posI (s.holds.map (·.id)) x]? with
  | none => (zSta, 8)
  | some h => if h.id ≠ x then (zSta, 8) else if a < 0 ∨ h.am < a then (zSta, 20) else (⟨s.num + 1, s.h0 + a, s.h1 + (h.am - a), s.pays, delA Hol.id s.holds x⟩, 0)
theorem holL_sum : ∀ {o : Option Int} {l : List Hol}, holL o l = true → ∀ p ∈ l, p.am ≤ sumH l
  | o, [], _, p, hp => by simp at hp
  | o, a :: r, h, p, hp => by
    simp only [holL, Bool.and_eq_true] at h
    have h1 := mayH_am h.1.1
    have h2 := sumH_nn h.2
    have e : sumH (a :: r) = a.am + sumH r := by simp [sumH]
    rcases List.mem_cons.1 hp with rfl | hp
    · omega
    · have := holL_sum h.2 p hp
      omega

end Go.Proofs.Ytejjhgdnmknejaa
