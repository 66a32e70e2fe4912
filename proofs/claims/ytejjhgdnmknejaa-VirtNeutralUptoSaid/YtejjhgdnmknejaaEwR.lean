/- Functions by their code, in one word; steps that forget. -/
import Derived.Test.YtejjhgdnmknejaaEwQ
namespace Go.EW
open Go

def cfun (P : Program) (f : FuncId) : Option (EB × List QOp × Nat) :=
  (P.funcs[f]?).bind fun fn => fn.body.bind fun c => (ccode P c).bind fun b => (cress P fn.results.toList).map fun q => (b, q, fn.ntmps)

def FinQ (m : Nat) (qs : List QOp) (post : EV → List (Option EO) → Prop) : Exit → St → Prop
  | .normal, s => ∃ s', Weak m s s' ∧ Fin m qs post s'
  | .ret, s => ∃ s', Weak m s s' ∧ Fin m qs post s'
  | _, _ => False

theorem ew_mono {P : Program} {m : Nat} : ∀ {b : EB} {Q Q' : Exit → St → Prop} {s : St}, (∀ e s, Q e s → Q' e s) → ew P m b Q s → ew P m b Q' s
  | .skip, Q, Q', s, h, k => h _ _ k
  | .reg l n, Q, Q', s, h, k => chain.mono (fun _ _ => h _ _) (fun _ h => h) k
  | .seq a b, Q, Q', s, h, k => ew_mono (b := a) (fun e s' hq => by
      cases e with
      | normal => exact ew_mono (b := b) h hq
      | _ => exact h _ _ hq) k
  | .cond c a b, Q, Q', s, h, k => by
    simp only [ew] at k ⊢
    split at k
    · rename_i t _
      cases t with
      | true => exact ew_mono (b := a) h k
      | false => exact ew_mono (b := b) h k
    · exact k
  | .block id b, Q, Q', s, h, k => ew_mono (b := b) (fun e s' hq => by
      cases e with
      | exit i =>
        simp only at hq ⊢
        split
        · rename_i hi; rw [if_pos hi] at hq; exact h _ _ hq
        · rename_i hi; rw [if_neg hi] at hq; exact h _ _ hq
      | _ => exact h _ _ hq) k
  | .loop b, Q, Q', s, h, k => by
    simp only [ew] at k ⊢
    obtain ⟨I, k0, s0, hw, hI, hr⟩ := k
    refine ⟨I, k0, s0, hw, hI, fun n s1 h1 => ew_mono (b := b) (fun e s' hq => ?_) (hr n s1 h1)⟩
    cases e with
    | normal => exact hq
    | _ => exact h _ _ hq
  | .exit id, Q, Q', s, h, k => h _ _ k
  | .ret, Q, Q', s, h, k => h _ _ k
  | .bot, Q, Q', s, h, k => k.elim

theorem ecalls_cfun {P : Program} {f : FuncId} {b : EB} {qs : List QOp} {nt : Nat} {args : List EV} {H : List EO} {post : EV → List (Option EO) → Prop}
    (hc : cfun P f = some (b, qs, nt)) (h : ew P H.length b (FinQ H.length qs post) ⟨args ++ List.replicate (nt - args.length) (.tup []), ofL H, H.length⟩) : ECalls P f args H post := by
  unfold cfun at hc
  replace hc := bind_some' hc; obtain ⟨fn, hf, hc⟩ := hc
  replace hc := bind_some' hc; obtain ⟨c, hb, hc⟩ := hc
  replace hc := bind_some' hc; obtain ⟨b', hcb, hc⟩ := hc
  replace hc := map_some' hc; obtain ⟨q, hq, hc⟩ := hc
  simp only [Prod.mk.injEq] at hc
  obtain ⟨rfl, rfl, rfl⟩ := hc
  refine ecalls_of hf hb hcb hq (ew_mono ?_ h)
  intro e s hh
  cases e with
  | normal => exact ⟨.inl rfl, hh⟩
  | ret => exact ⟨.inr rfl, hh⟩
  | _ => exact hh.elim

/-! ### steps that forget -/
/-- Temporaries are forgotten. -/
def Forgets : List EV → List EV → Prop
  | [], [] => True
  | x :: r, y :: t => (y = x ∨ y = .any) ∧ Forgets r t
  | _, _ => False
theorem forgets_all {X : Cx} : ∀ {T T' : List EV} {vs : List Value}, Forgets T T' → All2 (VV X) T vs → All2 (VV X) T' vs
  | [], [], vs, _, h => h
  | x :: r, y :: t, vs, hf, h => by
    obtain ⟨u, us, rfl, h1, h2⟩ := h.cons_left
    refine All2.cons ?_ (forgets_all hf.2 h2)
    rcases hf.1 with rfl | rfl
    · exact h1
    · trivial
  | [], _ :: _, _, h, _ => h.elim
  | _ :: _, [], _, h, _ => h.elim

theorem weak_forget {m n n' : Nat} {T T' : List EV} {H H' : Nat → Option EO} (hT : Forgets T T') (hH : ∀ o x, H' o = some x → H o = some x) (hn : n ≤ n') : Weak m ⟨T, H, n⟩ ⟨T', H', n'⟩ := by
  rintro w0 ρ0 Φ0 a w ⟨⟨X, hX, r, hall, hd, hU⟩, hm⟩
  exact ⟨⟨X, hX, r.drop hH, forgets_all hT hall, hd, fun o ho => Nat.lt_of_lt_of_le (hU o ho) hn⟩, Nat.le_trans hm hn⟩

/-- All names at once: g takes the new names to the old ones. -/
theorem weak_ren {m n n' : Nat} {T T' : List EV} {H H' : Nat → Option EO} (g : Nat → Nat) (hg : ∀ o, o < m → g o = o) (hinj : ∀ o o' x x', H' o = some x → H' o' = some x' → g o = g o' → o = o')
    (hT : T = T'.map (renV g)) (hH : ∀ o x, H' o = some x → o < n' ∧ H (g o) = some (renO g x)) (hrT : ∀ e ∈ T', ∀ o ∈ refsV e, o < n') (hrH : ∀ o x, H' o = some x → ∀ i ∈ refsO x, i < n') (hm' : m ≤ n') : Weak m ⟨T, H, n⟩ ⟨T', H', n'⟩ := by
  rintro w0 ρ0 Φ0 a w ⟨⟨X, rfl, r, hall, hd, hU⟩, hm⟩
  let Y : Cx := ⟨fun o => o < n' ∧ X.U (g o), fun o => X.ρ (g o), X.Φ, X.w⟩
  have unC : ∀ (x : EC) (v : Value), (∀ o ∈ refsC x, o < n') → VR X (renC g x) v → VR Y x v := by
    intro x v hx k
    cases x with
    | fz x => exact k
    | ptr o i => exact ⟨⟨hx o (by simp [refsC]), k.1⟩, k.2⟩
    | eptr o es i j => exact ⟨⟨hx o (by simp [refsC]), k.1⟩, k.2⟩
    | row o len => exact ⟨⟨hx o (by simp [refsC]), k.1⟩, k.2⟩
    | bsl o i len => exact ⟨⟨hx o (by simp [refsC]), k.1⟩, k.2⟩
    | rsl o i len => exact ⟨⟨hx o (by simp [refsC]), k.1⟩, k.2⟩
    | fptr cs i => exact k
    | clo f caps =>
      obtain ⟨vs, hv, ha⟩ := k
      refine ⟨vs, hv, by have := ha.1; simpa using this, ?_⟩
      intro i p u hp hu
      have h1 := ha.2 i (g p.1, p.2) u (by rw [List.getElem?_map, hp]; rfl) hu
      exact ⟨⟨hx p.1 (by simp only [refsC, List.mem_map]; exact ⟨p, List.mem_of_getElem? hp, rfl⟩), h1.1⟩, h1.2⟩
  have unAll : ∀ (cs : List EC) (vs : List Value), (∀ o ∈ cs.flatMap refsC, o < n') → All2 (VR X) (cs.map (renC g)) vs → All2 (VR Y) cs vs := by
    intro cs vs hcs k
    refine ⟨by have := k.1; simpa using this, ?_⟩
    intro i x y hx hy
    exact unC x y (fun o ho => hcs o (List.mem_flatMap.2 ⟨x, List.mem_of_getElem? hx, ho⟩)) (k.2 i (renC g x) y (by rw [List.getElem?_map, hx]; rfl) hy)
  have unT : ∀ (x : TV) (v : Value), (∀ o ∈ refsT x, o < n') → VT X (renT g x) v → VT Y x v := by
    intro x v hx k
    cases x with
    | c x => exact unC x v hx k
    | agg cs => obtain ⟨vs, hv, ha⟩ := k; exact ⟨vs, hv, unAll cs vs hx ha⟩
  have unV : ∀ (x : EV) (v : Value), (∀ o ∈ refsV x, o < n') → VV X (renV g x) v → VV Y x v := by
    intro x v hx k
    cases x with
    | v x => exact unT x v hx k
    | tup ts =>
      obtain ⟨vs, hv, ha⟩ := k
      refine ⟨vs, hv, by have := ha.1; simpa using this, ?_⟩
      intro i x y hx' hy
      exact unT x y (fun o ho => hx o (List.mem_flatMap.2 ⟨x, List.mem_of_getElem? hx', ho⟩)) (ha.2 i (renT g x) y (by rw [List.getElem?_map, hx']; rfl) hy)
    | any => trivial
  refine ⟨⟨Y, rfl, ⟨r.os, r.tape, r.output, r.size, r.block, ?_, ?_, ?_, ?_, ?_, r.fro, r.phi, r.glob⟩, ?_, hd, fun o ho => ho.1⟩, hm'⟩
  · intro o ho
    show X.ρ (g o) = ρ0 o
    rw [hg o ho]
    exact r.pin o ho
  · intro o x hx
    obtain ⟨h1, h2⟩ := hH o x hx
    obtain ⟨hu, hor⟩ := r.obj _ _ h2
    refine ⟨⟨h1, hu⟩, ?_⟩
    have hrx := hrH o x hx
    cases x with
    | box ty cs =>
      obtain ⟨b, c, hv, hh, ha⟩ := hor
      exact ⟨b, c, hv, hh, unAll cs _ hrx ha⟩
    | row ty es xs => exact hor
  · intro o o' x x' b hx hx' e1 e2
    obtain ⟨_, h2⟩ := hH o x hx
    obtain ⟨_, h2'⟩ := hH o' x' hx'
    exact hinj o o' x x' hx hx' (r.inj _ _ _ _ b h2 h2' e1 e2)
  · intro o x b hx e1
    exact r.own _ _ b (hH o x hx).2 e1
  · intro o x b hx e1
    exact r.dis _ _ b (hH o x hx).2 e1
  · subst hT
    refine ⟨by have := hall.1; simpa using this, ?_⟩
    intro i x y hx hy
    exact unV x y (hrT x (List.mem_of_getElem? hx)) (hall.2 i (renV g x) y (by rw [List.getElem?_map, hx]; rfl) hy)

end Go.EW
