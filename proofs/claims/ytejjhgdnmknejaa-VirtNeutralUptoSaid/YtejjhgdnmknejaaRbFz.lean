import Derived.Test.YtejjhgdnmknejaaProg
import Derived.Test.YtejjhgdnmknejaaEwX
namespace Go.Proofs.Ytejjhgdnmknejaa
open Go Go.EW
set_option linter.unusedSimpArgs false
set_option linter.unusedVariables false

/-- A row that is made and handed back may be handed back as one that is only looked at. -/
theorem ecalls_frz {P : Program} {f : FuncId} {args : List EV} {ty es : Nat} {xs : List (List FV)} (h : ECalls P f args [] fun y H' => H' = [some (.row ty es xs)] ∧ y = .v (.c (.row 0 xs.length))) : ECalls P f args [] fun y H' => H' = [] ∧ y = .v (.c (.fz (.sl es xs))) := by
  intro ρ Φ w vals r ha
  refine (h ρ Φ w vals r ha).mono ?_
  rintro e w' ⟨y, H', v, ρ', Φ', he, ⟨rfl, rfl⟩, hlen, hv, hr⟩
  have hw := weak_frz (m := 0) (n := 1) (T := [.v (.c (.row 0 xs.length))]) (H := ofO [some (.row ty es xs)]) (o := 0) (ty := ty) (es := es) (xs := xs) rfl
  obtain ⟨⟨X, hX, r1, a1, _, _⟩, _⟩ := hw w ρ Φ { tmps := #[v], defers := [] } w' ⟨⟨⟨fun o => o < 1, ρ', Φ', w'⟩, rfl, hr, All2.cons hv All2.nil, rfl, fun i hi => hi⟩, Nat.zero_le _⟩
  obtain ⟨XU, Xρ, XΦ, Xw⟩ := X
  obtain rfl : Xw = w' := hX
  refine ⟨_, [], v, Xρ, XΦ, he, ⟨rfl, rfl⟩, Nat.zero_le _, ?_, ?_⟩
  · have := a1.head
    simp at this
    exact this
  · refine ⟨r1.os, r1.tape, r1.output, r1.size, r1.block, fun o ho => absurd ho (Nat.not_lt_zero _), ?_, ?_, ?_, ?_, r1.fro, r1.phi, r1.glob⟩
    · intro o x hx; simp [ofO] at hx
    · intro o o' x x' b hx; simp [ofO] at hx
    · intro o x b hx; simp [ofO] at hx
    · intro o x b hx; simp [ofO] at hx

/-- An own row may be handed where one is wanted that is only looked at. -/
theorem ecalls_thaw {P : Program} {f : FuncId} {args args' : List EV} {ty es : Nat} {xs : List (List FV)} {post : EV → Prop} (h : ECalls P f args' [] fun y H' => H' = [] ∧ post y)
    (hc : conArgs (fun _ => none) [] (args.map (fzEV 0 es xs)) = some args') : ECalls P f args [.row ty es xs] fun y H' => H' = [none] ∧ post y := by
  intro ρ Φ w vals r ha
  have hw := weak_frz (m := 1) (n := 1) (T := args) (H := ofL [.row ty es xs]) (o := 0) (ty := ty) (es := es) (xs := xs) rfl
  obtain ⟨⟨X, hX, r1, a1, _, hU⟩, _⟩ := hw w ρ Φ { tmps := vals.toArray, defers := [] } w ⟨⟨⟨fun o => o < 1, ρ, Φ, w⟩, rfl, r, by simpa using ha, rfl, fun i hi => hi⟩, Nat.le_refl _⟩
  obtain ⟨XU, Xρ, XΦ, Xw⟩ := X
  obtain rfl : Xw = w := hX
  have hH : (fun i => if i = 0 then none else (ofL [EO.row ty es xs] i).map (fzEO 0 es xs)) = fun _ => none := by
    funext i
    rcases i with _ | i <;> simp [ofL]
  simp only at r1
  rw [hH] at r1
  have ra : Rel Xw 0 Xρ XΦ (ofL []) ⟨fun o => o < 0, Xρ, XΦ, Xw⟩ := by
    refine ⟨rfl, rfl, rfl, Nat.le_refl _, fun _ _ _ => rfl, fun _ _ => rfl, ?_, ?_, ?_, ?_, r1.fro, fun b hb => .inl hb, r1.glob⟩
    · intro o x hx; simp [ofL] at hx
    · intro o o' x x' b hx; simp [ofL] at hx
    · intro o x b hx; simp [ofL] at hx
    · intro o x b hx; simp [ofL] at hx
  have hi : Into ⟨XU, Xρ, XΦ, Xw⟩ ⟨fun o => o < 0, Xρ, XΦ, Xw⟩ [] := by
    constructor <;> simp
  have a2 := conArgs_spec r1 hi hc (fun o _ y b hy => by simp at hy) (by simpa using a1)
  refine (h Xρ XΦ Xw vals ra a2).mono ?_
  rintro e w' ⟨y, H', v, ρ', Φ', he, ⟨rfl, hp⟩, hlen, hv, hr⟩
  have hl : Later ⟨fun o => o < 0, ρ', Φ', w'⟩ ⟨fun o => o < 1, ρ, Φ', w'⟩ := ⟨fun o ho => absurd ho (Nat.not_lt_zero _), fun o ho => absurd ho (Nat.not_lt_zero _), fun _ h => h, fun _ _ => rfl⟩
  refine ⟨y, [none], v, ρ, Φ', he, ⟨rfl, hp⟩, Nat.le_refl _, hl.vv hv, ?_⟩
  refine ⟨hr.os, hr.tape, hr.output, hr.size, ?_, fun _ _ => rfl, ?_, ?_, ?_, ?_, hr.fro, ?_, hr.glob⟩
  · intro b hb1 hn
    exact hr.block b hb1 fun o ho => absurd ho (Nat.not_lt_zero _)
  · intro o x hx; rcases o with _ | o <;> simp [ofO] at hx
  · intro o o' x x' b hx; rcases o with _ | o <;> simp [ofO] at hx
  · intro o x b hx; rcases o with _ | o <;> simp [ofO] at hx
  · intro o x b hx; rcases o with _ | o <;> simp [ofO] at hx
  · intro b hb1
    rcases hr.phi b hb1 with h3 | h3 | ⟨o', h3, h4⟩
    · exact r1.phi b h3
    · exact .inr (.inl h3)
    · exact absurd h3 (Nat.not_lt_zero _)

end Go.Proofs.Ytejjhgdnmknejaa
