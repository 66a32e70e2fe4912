/- Words for proofs over E-code: what simp computes; calls; ends; bytes. -/
import Derived.Test.YtejjhgdnmknejaaEwU
import Derived.Test.YtejjhgdnmknejaaEwT
namespace Go.EW
open Go

attribute [simp] gdOK evQ ev nth cst asLit asC asAg asCells setD EV.lit litc addO EK.looks QOp.looks isNum lenOf frz frzAll putAt putParts setParts bnd lits capsOf eqpv notNil cellsAt cellsAtN cellsRun gptr gcells elemsF elemsOf elems2 baseF baseOf stoAt cpyAt dropO intsOf intS2 bytesOf nilLen nilF isNil rowOf strB
attribute [simp] deadK dataK rowsV rowsE isRow fzM fzMT fzMV rmv
attribute [simp] conArgs conV conC conAll strC strAll strO objsIn idx capsIn fzV fzC noSlV noSlT noSlC noSlO noSlF renV renT renC renO ofL reach stepR refsAt refsV refsT refsC refsO Wok

attribute [simp] List.getElem?_cons_zero
@[simp] theorem eqiv_nil : eqiv .nilIface = some true := rfl
@[simp] theorem eqiv_iface (t : TypeId) (v : Value) : eqiv (.iface t v) = some false := rfl
@[simp] theorem upd_at {α : Type} (f : Nat → α) (i : Nat) (v : α) (j : Nat) : upd f i v j = if j = i then v else f j := rfl
@[simp] theorem after_at (H : Nat → Option EO) (ids : List Nat) (base : Nat) (H' : List (Option EO)) (o : Nat) : after H ids base H' o =
    match idx ids o with
    | some j => (ofO H' j).map (renO (rnm ids base))
    | none => if base ≤ o ∧ o < base + (H'.length - ids.length) then (ofO H' (ids.length + (o - base))).map (renO (rnm ids base)) else H o := rfl
@[simp] theorem after_none (H : Nat → Option EO) (base : Nat) : after H [] base [] = H := by
  funext o
  simp [after]
  omega
@[simp] theorem ofO_at (H : List (Option EO)) (i : Nat) : ofO H i = (H[i]?).getD none := rfl
@[simp] theorem rnm_at (ids : List Nat) (base j : Nat) : rnm ids base j = (ids[j]?).getD (base + (j - ids.length)) := rfl

theorem le_ok {a b : Nat} (h : Nat.ble a b = true) : a ≤ b := Nat.le_of_ble_eq_true h
/-- A call that is handed no object, of a function that makes none. -/
theorem call0 {P : Program} {f : FuncId} {args args' : List EV} {H : Nat → Option EO} {base : Nat} {ok : Nat → Prop} {K : EV → (Nat → Option EO) → Tok → Prop} {post : EV → List (Option EO) → Prop}
    (h : ECalls P f args' [] post) (hcon : conArgs H [] args = some args') (hk : ∀ y H', post y H' → (args.flatMap (fzV []) = [] ∨ (noSlV y = true ∧ ∀ x, some x ∈ H' → noSlO x = true)) ∧ H'.length ≤ 16 ∧ K (renV (rnm [] base) y) (after H [] base H') .on) : ECall P f args H base ok K :=
  ⟨[], args', [], post, hcon, rfl, List.nodup_nil, by simp, by simp, h, fun y H' hp => ⟨⟨(hk y H' hp).1, by simpa using (hk y H' hp).2.1⟩, (hk y H' hp).2.2⟩⟩

/-- A call that is handed the objects ids. -/
theorem callH {P : Program} {f : FuncId} {args args' : List EV} {H : Nat → Option EO} {base : Nat} {ok : Nat → Prop} {K : EV → (Nat → Option EO) → Tok → Prop} {post : EV → List (Option EO) → Prop} (ids : List Nat) {Hc : List EO}
    (h : ECalls P f args' Hc post) (hcon : conArgs H ids args = some args') (hin : objsIn H ids ids = some Hc) (hnd : ids.Nodup) (hre : ∀ i ∈ ids, i ∈ reach H (args.flatMap refsV)) (hok : ∀ i ∈ ids, ok i)
    (hk : ∀ y H', post y H' → (args.flatMap (fzV ids) = [] ∨ (noSlV y = true ∧ ∀ x, some x ∈ H' → noSlO x = true)) ∧ H'.length ≤ ids.length + 16 ∧ K (renV (rnm ids base) y) (after H ids base H') .on) : ECall P f args H base ok K :=
  ⟨ids, args', Hc, post, hcon, hin, hnd, hre, fun i hi => .inl (hok i hi), h, fun y H' hp => ⟨⟨(hk y H' hp).1, (hk y H' hp).2.1⟩, (hk y H' hp).2.2⟩⟩

/-- A call that is handed the objects ids, and leaves them as they are: in any order with what only looks at them. -/
theorem callS {P : Program} {f : FuncId} {args args' : List EV} {H : Nat → Option EO} {base : Nat} {ok : Nat → Prop} {K : EV → (Nat → Option EO) → Tok → Prop} {post : EV → List (Option EO) → Prop} (ids : List Nat) {Hc : List EO}
    (h : ECalls P f args' Hc post) (hcon : conArgs H ids args = some args') (hin : objsIn H ids ids = some Hc) (hnd : ids.Nodup) (hre : ∀ i ∈ ids, i ∈ reach H (args.flatMap refsV)) (hst : ∀ i ∈ ids, ∀ y H', post y H' → after H ids base H' i = H i)
    (hk : ∀ y H', post y H' → (args.flatMap (fzV ids) = [] ∨ (noSlV y = true ∧ ∀ x, some x ∈ H' → noSlO x = true)) ∧ H'.length ≤ ids.length + 16 ∧ K (renV (rnm ids base) y) (after H ids base H') .on) : ECall P f args H base ok K :=
  ⟨ids, args', Hc, post, hcon, hin, hnd, hre, fun i hi => .inr (hst i hi), h, fun y H' hp => ⟨⟨(hk y H' hp).1, (hk y H' hp).2.1⟩, (hk y H' hp).2.2⟩⟩

theorem ecalls {P : Program} {f : FuncId} {c : EB × List QOp × Nat} {args : List EV} {H : List EO} {post : EV → List (Option EO) → Prop}
    (hc : cfun P f = some c) (h : ewT .on P H.length c.1 (fun e s _ => FinQ H.length c.2.1 post e s) ⟨args ++ List.replicate (c.2.2 - args.length) (.tup []), ofL H, H.length⟩) : ECalls P f args H post :=
  ecalls_cfun (b := c.1) (qs := c.2.1) (nt := c.2.2) hc h

theorem fin {m : Nat} {qs : List QOp} {post : EV → List (Option EO) → Prop} {s : St} (more : List Nat) {v y : EV} {H' : List (Option EO)} (hnd : (List.range m ++ more).Nodup) (hv : resV s.T s.H qs = some v) (hcon : conR s.H (List.range m ++ more) v = some y)
    (hout : objsOut s.H (List.range m ++ more) (List.range m ++ more) = some H') (hp : post y H') : FinQ m qs post .ret s :=
  ⟨s, Weak.refl s, more, v, y, H', hnd, hv, hcon, hout, hp⟩
theorem finW {m : Nat} {qs : List QOp} {post : EV → List (Option EO) → Prop} {s : St} (s' : St) (hw : Weak m s s') (h : FinQ m qs post .ret s') : FinQ m qs post .ret s := by
  obtain ⟨s'', h1, h2⟩ := h
  exact ⟨s'', hw.trans h1, h2⟩

/-- A nil slice in a box becomes a slice of its own, of nothing. -/
theorem weak_nil {m n o k : Nat} {T : List EV} {H : Nat → Option EO} {tb ty es : Nat} {cells : List EC} (ho : H o = some (.box tb cells)) (hc : cells[k]? = some (.fz (.lit (.slice none 0 0)))) (he : 0 < es) :
    Weak m ⟨T, H, n⟩ ⟨T, upd (upd H o (some (.box tb (cells.set k (.row n 0))))) n (some (.row ty es [])), n + 1⟩ := by
  rintro w0 ρ0 Φ0 a w ⟨⟨X, rfl, r, hall, hd, hU⟩, hm⟩
  have hn : ¬ X.U n := fun h => Nat.lt_irrefl _ (hU n h)
  have hon : o ≠ n := by rintro rfl; exact hn (r.obj o _ ho).1
  obtain ⟨r1, l1⟩ := r.new (w' := X.w) rfl rfl rfl (Nat.le_refl _) (fun _ _ => rfl) n hn hm (.row ty es []) (.slice none 0 0) (by intro b hb'; simp [hb] at hb')
    ⟨he, by simp, [], World.ownsRow_nil _ _ _ _, by simpa using All2.nil⟩
  -- the box reads as before, the cell by its new name
  let Y : Cx := { U := fun o => X.U o ∨ o = n, ρ := upd X.ρ n (.slice none 0 0), Φ := X.Φ, w := X.w }
  have hbx := (r1.obj o (.box tb cells) (by rw [upd_ne _ _ _ hon]; exact ho)).2
  have hbox : OR Y (.box tb (cells.set k (.row n 0))) (Y.ρ o) := by
    obtain ⟨b, c, h1, h2, h3⟩ := hbx
    refine ⟨b, c, h1, h2, by simpa using h3.1, ?_⟩
    intro i x y hx hy
    rw [List.getElem?_set] at hx
    split at hx
    · rename_i hik
      subst hik
      split at hx
      · simp only [Option.some.injEq] at hx
        subst hx
        have hv := h3.2 k _ y hc hy
        have hv' : FR X.Φ X.w (.lit (.slice none 0 0)) y := hv
        cases hv'
        exact ⟨.inr rfl, none, 0, 0, by simp [Y], Nat.le_refl _, Nat.le_refl _, rfl⟩
      · simp at hx
    · exact h3.2 i x y hx hy
  have hY : Rel w0 m ρ0 Φ0 (upd (upd H o (some (.box tb (cells.set k (.row n 0))))) n (some (.row ty es []))) Y := by
    have live : ∀ i x, upd (upd H o (some (.box tb (cells.set k (.row n 0))))) n (some (.row ty es [])) i = some x → ∃ x', upd H n (some (.row ty es [])) i = some x' ∧ (i = o ∨ x' = x) := by
      intro i x hx
      by_cases h1 : i = n
      · subst h1; rw [upd_same] at hx ⊢; exact ⟨_, rfl, .inr (Option.some.inj hx)⟩
      · rw [upd_ne _ _ _ h1] at hx ⊢
        by_cases h2 : i = o
        · subst h2; exact ⟨_, ho, .inl rfl⟩
        · rw [upd_ne _ _ _ h2] at hx; exact ⟨x, hx, .inr rfl⟩
    refine ⟨r1.os, r1.tape, r1.output, r1.size, r1.block, r1.pin, ?_, ?_, ?_, ?_, r1.fro, r1.phi, r1.glob⟩
    · intro i x hx
      obtain ⟨x', hx', h⟩ := live i x hx
      obtain ⟨hu, hor⟩ := r1.obj i x' hx'
      refine ⟨hu, ?_⟩
      by_cases hio : i = o
      · subst hio
        rw [upd_ne _ _ _ hon, upd_same] at hx
        obtain rfl := Option.some.inj hx
        exact hbox
      · rcases h with h | rfl
        · exact absurd h hio
        · exact hor
    · intro i i' x x' b h1 h2
      obtain ⟨_, q1, _⟩ := live i x h1
      obtain ⟨_, q2, _⟩ := live i' x' h2
      exact r1.inj i i' _ _ b q1 q2
    · intro i x b h1
      obtain ⟨_, q1, _⟩ := live i x h1
      exact r1.own i _ b q1
    · intro i x b h1
      obtain ⟨_, q1, _⟩ := live i x h1
      exact r1.dis i _ b q1
  exact ⟨⟨Y, rfl, hY, hall.mono fun _ _ => l1.vv, hd, fun i hi => by
    rcases hi with h | rfl
    · exact Nat.lt_succ_of_lt (hU i h)
    · exact Nat.lt_succ_self _⟩, Nat.le_succ_of_le hm⟩

/-- A row that is only looked at from now on: the cell of a box that names it holds it frozen. -/
theorem weak_still {m n p k o : Nat} {T : List EV} {H : Nat → Option EO} {tb ty es : Nat} {cells : List EC} {xs : List (List FV)} (hp : H p = some (.box tb cells)) (hc : cells[k]? = some (.row o xs.length)) (ho : H o = some (.row ty es xs)) :
    Weak m ⟨T, H, n⟩ ⟨T, upd (upd H p (some (.box tb (cells.set k (.fz (.sl es xs)))))) o none, n⟩ := by
  rintro w0 ρ0 Φ0 a w ⟨⟨X, rfl, r, hall, hd, hU⟩, hm⟩
  have hpo : p ≠ o := by rintro rfl; rw [hp] at ho; simp at ho
  obtain ⟨hu, h0, hlen, flat, how, hfl⟩ := r.obj o _ ho
  obtain ⟨b0, c0, hb0, hh0, hcs⟩ := (r.obj p _ hp).2
  -- the context behind it
  obtain ⟨g, hg⟩ : ∃ g : Option Nat, hb (X.ρ o) = g := ⟨_, rfl⟩
  have key : ∃ Y : Cx, Y.w = X.w ∧ Y.U = X.U ∧ Y.ρ = X.ρ ∧ Rel w0 m ρ0 Φ0 (upd H o none) Y ∧ Later X Y ∧ ∀ v, VR X (.row o xs.length) v → FR Y.Φ Y.w (.sl es xs) v := by
    rcases how with ⟨hl, ⟨e1, e2⟩ | ⟨g', cap, cur, e1, _, hg', hnc, hcm, hsz, htk⟩⟩
    · refine ⟨X, rfl, rfl, rfl, r.drop (fun i x hx => by
        by_cases e : i = o
        · subst e; rw [upd_same] at hx; simp at hx
        · rwa [upd_ne _ _ _ e] at hx), Later.refl X, ?_⟩
      rintro v ⟨_, a', n', cap', q1, q2, q3, rfl⟩
      have : xs = [] := List.eq_nil_of_length_eq_zero e2
      subst this
      exact FR.emp es a' cap'
    · have hbo : hb (X.ρ o) = some g' := by rw [e1]; rfl
      obtain ⟨r', l'⟩ := r.still (w' := X.w) rfl rfl rfl rfl o _ ho g' hbo (fun _ _ => rfl)
      refine ⟨{ X with Φ := fun k => X.Φ k ∨ k = g', w := X.w }, rfl, rfl, rfl, r', l', ?_⟩
      rintro v ⟨_, a', n', cap', q1, q2, q3, rfl⟩
      rw [e1] at q1
      simp only [Value.slice.injEq] at q1
      obtain ⟨rfl, rfl, rfl⟩ := q1
      refine FR.sl es xs g' 0 cap flat (.inr rfl) h0 hlen hl (by omega) ?_ ?_
      · intro j u hj
        rw [Nat.zero_add, cell_of_row _ _ _ cur ty (0, 0) hg']
        rw [← htk, List.getElem?_take] at hj
        split at hj
        · simpa using hj
        · simp at hj
      · intro j x u hx hu'
        exact l'.fr (hfl.2 j x u hx hu')
  obtain ⟨Y, hYw, hYU, hYρ, rY, lY, hfr⟩ := key
  have hbox : OR Y (.box tb (cells.set k (.fz (.sl es xs)))) (Y.ρ p) := by
    refine ⟨b0, c0, by rw [hYρ]; exact hb0, by rw [hYw]; exact hh0, by simpa using hcs.1, ?_⟩
    intro i x y hx hy
    rw [List.getElem?_set] at hx
    split at hx
    · rename_i hik
      subst hik
      split at hx
      · obtain rfl := Option.some.inj hx
        exact hfr y (hcs.2 k _ y hc hy)
      · simp at hx
    · exact lY.vr (hcs.2 i x y hx hy)
  refine ⟨⟨Y, hYw, ?_, hall.mono fun _ _ => lY.vv, hd, fun i hi => hU i (by rw [hYU] at hi; exact hi)⟩, hm⟩
  have live : ∀ i x, upd (upd H p (some (.box tb (cells.set k (.fz (.sl es xs)))))) o none i = some x → ∃ x', upd H o none i = some x' ∧ ((i = p ∧ x = .box tb (cells.set k (.fz (.sl es xs)))) ∨ x' = x) := by
    intro i x hx
    by_cases h1 : i = o
    · subst h1; rw [upd_same] at hx; simp at hx
    · rw [upd_ne _ _ _ h1] at hx ⊢
      by_cases h2 : i = p
      · subst h2; rw [upd_same] at hx; exact ⟨_, hp, .inl ⟨rfl, (Option.some.inj hx).symm⟩⟩
      · rw [upd_ne _ _ _ h2] at hx; exact ⟨x, hx, .inr rfl⟩
  refine ⟨rY.os, rY.tape, rY.output, rY.size, rY.block, rY.pin, ?_, ?_, ?_, ?_, rY.fro, rY.phi, rY.glob⟩
  · intro i x hx
    obtain ⟨x', hx', h⟩ := live i x hx
    obtain ⟨hu', hor⟩ := rY.obj i x' hx'
    rcases h with ⟨rfl, rfl⟩ | rfl
    · exact ⟨hu', hbox⟩
    · exact ⟨hu', hor⟩
  · intro i i' x x' b h1 h2
    obtain ⟨_, q1, _⟩ := live i x h1
    obtain ⟨_, q2, _⟩ := live i' x' h2
    exact rY.inj i i' _ _ b q1 q2
  · intro i x b h1
    obtain ⟨_, q1, _⟩ := live i x h1
    exact rY.own i _ b q1
  · intro i x b h1
    obtain ⟨_, q1, _⟩ := live i x h1
    exact rY.dis i _ b q1

/-- A nil slice that is to be one's own. -/
theorem weak_nilR {m n : Nat} {T : List EV} {H : Nat → Option EO} (i ty es : Nat) (hT : T[i]? = some (.v (.c (.fz (.lit (.slice none 0 0)))))) (he : 0 < es) :
    Weak m ⟨T, H, n⟩ ⟨T.set i (.v (.c (.row n 0))), upd H n (some (.row ty es [])), n + 1⟩ := by
  rintro w0 ρ0 Φ0 a w ⟨⟨X, rfl, r, hall, hd, hU⟩, hm⟩
  have hn : ¬ X.U n := fun h => Nat.lt_irrefl _ (hU n h)
  obtain ⟨r1, l1⟩ := r.new (w' := X.w) rfl rfl rfl (Nat.le_refl _) (fun _ _ => rfl) n hn hm (.row ty es []) (.slice none 0 0) (by intro b hb'; simp [hb] at hb')
    ⟨he, by simp, [], World.ownsRow_nil _ _ _ _, by simpa using All2.nil⟩
  refine ⟨⟨{ U := fun o => X.U o ∨ o = n, ρ := upd X.ρ n (.slice none 0 0), Φ := X.Φ, w := X.w }, rfl, r1, ?_, hd, fun j hj => ?_⟩, Nat.le_succ_of_le hm⟩
  · have h2 := hall.mono fun _ _ => l1.vv
    refine ⟨by rw [List.length_set]; exact hall.1, ?_⟩
    intro j x y hx hy
    rw [List.getElem?_set] at hx
    split at hx
    · rename_i hij
      subst hij
      split at hx
      · obtain rfl := Option.some.inj hx
        have h : FR X.Φ X.w (.lit (.slice none 0 0)) y := hall.2 i _ y hT hy
        cases h
        exact ⟨.inr rfl, none, 0, 0, by simp, Nat.le_refl _, Nat.le_refl _, rfl⟩
      · simp at hx
    · exact h2.2 j x y hx hy
  · rcases hj with h | rfl
    · exact Nat.lt_succ_of_lt (hU j h)
    · exact Nat.lt_succ_self _

/-- A nil slice that is only looked at. -/
theorem weak_nilF {m n : Nat} {T : List EV} {H : Nat → Option EO} (i es : Nat) (hT : T[i]? = some (.v (.c (.fz (.lit (.slice none 0 0)))))) : Weak m ⟨T, H, n⟩ ⟨T.set i (.v (.c (.fz (.sl es [])))), H, n⟩ := by
  rintro w0 ρ0 Φ0 a w ⟨⟨X, hX, r, hall, hd, hU⟩, hm⟩
  refine ⟨⟨X, hX, r, ?_, hd, hU⟩, hm⟩
  refine ⟨by rw [List.length_set]; exact hall.1, ?_⟩
  intro j x y hx hy
  rw [List.getElem?_set] at hx
  split at hx
  · rename_i hij
    subst hij
    split at hx
    · obtain rfl := Option.some.inj hx
      have h : FR X.Φ X.w (.lit (.slice none 0 0)) y := hall.2 i _ y hT hy
      cases h
      exact FR.emp es none 0
    · simp at hx
  · exact hall.2 j x y hx hy

/-! ### a state as it is told at the head of a loop: temporaries forgotten, objects named anew -/
def gOf (gl : List Nat) (o : Nat) : Nat := (gl[o]?).getD o
def NormT (g : Nat → Nat) (n' : Nat) : List EV → List EV → Prop
  | [], [] => True
  | x :: r, y :: t => (y = .any ∨ (x = renV g y ∧ ∀ o ∈ refsV y, o < n')) ∧ NormT g n' r t
  | _, _ => False
def NormL (g : Nat → Nat) (H : Nat → Option EO) (n' : Nat) : Nat → List (Option EO) → Prop
  | _, [] => True
  | i, none :: r => NormL g H n' (i + 1) r
  | i, some x :: r => (H (g i) = some (renO g x) ∧ ∀ o ∈ refsO x, o < n') ∧ NormL g H n' (i + 1) r
def liveL : Nat → List (Option EO) → List Nat
  | _, [] => []
  | i, none :: r => liveL (i + 1) r
  | i, some _ :: r => i :: liveL (i + 1) r

theorem normL_get {g : Nat → Nat} {H : Nat → Option EO} {n' : Nat} : ∀ {L : List (Option EO)} {i : Nat}, NormL g H n' i L → ∀ (j : Nat) (x : EO), L[j]? = some (some x) → H (g (i + j)) = some (renO g x) ∧ ∀ o ∈ refsO x, o < n'
  | [], i, _, j, x, hj => by simp at hj
  | none :: r, i, h, j, x, hj => by
    cases j with
    | zero => simp at hj
    | succ j =>
      have := normL_get (L := r) (i := i + 1) h j x (by simpa using hj)
      rwa [show i + 1 + j = i + (j + 1) by omega] at this
  | some y :: r, i, h, j, x, hj => by
    cases j with
    | zero => simp at hj; subst hj; exact h.1
    | succ j =>
      have := normL_get (L := r) (i := i + 1) h.2 j x (by simpa using hj)
      rwa [show i + 1 + j = i + (j + 1) by omega] at this
theorem liveL_mem : ∀ {L : List (Option EO)} {i j : Nat} {x : EO}, L[j]? = some (some x) → i + j ∈ liveL i L
  | [], i, j, x, hj => by simp at hj
  | none :: r, i, j, x, hj => by
    cases j with
    | zero => simp at hj
    | succ j =>
      have := liveL_mem (L := r) (i := i + 1) (j := j) (x := x) (by simpa using hj)
      simp only [liveL]
      rwa [show i + 1 + j = i + (j + 1) by omega] at this
  | some y :: r, i, j, x, hj => by
    cases j with
    | zero => simp [liveL]
    | succ j =>
      have := liveL_mem (L := r) (i := i + 1) (j := j) (x := x) (by simpa using hj)
      simp only [liveL, List.mem_cons]
      right
      rwa [show i + 1 + j = i + (j + 1) by omega] at this
theorem nodup_map_inj {α β : Type} {f : α → β} : ∀ {l : List α}, (l.map f).Nodup → ∀ a ∈ l, ∀ b ∈ l, f a = f b → a = b
  | [], _, a, ha, _, _, _ => by simp at ha
  | x :: r, h, a, ha, b, hb, e => by
    rw [List.map_cons, List.nodup_cons] at h
    obtain ⟨h1, h2⟩ := h
    rcases List.mem_cons.1 ha with q1 | q1
    · rcases List.mem_cons.1 hb with q2 | q2
      · rw [q1, q2]
      · exact (h1 (List.mem_map.2 ⟨b, q2, by rw [← e, q1]⟩)).elim
    · rcases List.mem_cons.1 hb with q2 | q2
      · exact (h1 (List.mem_map.2 ⟨a, q1, by rw [e, q2]⟩)).elim
      · exact nodup_map_inj h2 a q1 b q2 e

theorem normT_split {g : Nat → Nat} {n' : Nat} : ∀ {T T' : List EV}, NormT g n' T T' → ∃ T1, Forgets T T1 ∧ T1 = T'.map (renV g) ∧ ∀ e ∈ T', ∀ o ∈ refsV e, o < n'
  | [], [], _ => ⟨[], trivial, rfl, by simp⟩
  | x :: r, y :: t, h => by
    obtain ⟨T1, h1, h2, h3⟩ := normT_split h.2
    refine ⟨renV g y :: T1, ⟨?_, h1⟩, by simp [h2], ?_⟩
    · rcases h.1 with rfl | ⟨rfl, _⟩
      · exact .inr rfl
      · exact .inl rfl
    · intro e he o ho
      rcases List.mem_cons.1 he with rfl | he
      · rcases h.1 with rfl | ⟨_, hr⟩
        · simp [refsV] at ho
        · exact hr o ho
      · exact h3 e he o ho
  | [], _ :: _, h => h.elim
  | _ :: _, [], h => h.elim

theorem ofO_some {L : List (Option EO)} {o : Nat} {x : EO} (h : ofO L o = some x) : L[o]? = some (some x) := by
  unfold ofO at h
  cases hh : L[o]? with
  | none => rw [hh] at h; simp at h
  | some z => rw [hh] at h; simp at h; rw [h]

theorem weak_norm {m n : Nat} {T : List EV} {H : Nat → Option EO} (gl : List Nat) (T' : List EV) (L : List (Option EO)) (hT : NormT (gOf gl) L.length T T') (hL : NormL (gOf gl) H L.length 0 L) (hinj : ((liveL 0 L).map (gOf gl)).Nodup)
    (hg : ∀ o, o < m → gOf gl o = o) (hm : m ≤ L.length) : Weak m ⟨T, H, n⟩ ⟨T', ofO L, L.length⟩ := by
  obtain ⟨T1, h1, h2, h3⟩ := normT_split hT
  refine (weak_forget (n' := n) h1 (H' := H) (fun _ _ h => h) (Nat.le_refl _)).trans ?_
  refine weak_ren (gOf gl) hg ?_ h2 ?_ h3 ?_ hm
  · intro o o' x x' hx hx' e
    have q1 := liveL_mem (i := 0) (ofO_some hx)
    have q2 := liveL_mem (i := 0) (ofO_some hx')
    rw [Nat.zero_add] at q1 q2
    exact nodup_map_inj hinj o q1 o' q2 e
  · intro o x hx
    have h := ofO_some hx
    have := (normL_get hL o x h).1
    rw [Nat.zero_add] at this
    exact ⟨lt_len h, this⟩
  · intro o x hx
    exact (normL_get hL o x (ofO_some hx)).2

attribute [simp] NormT NormL liveL gOf

/-! ### loops -/
def Round {α : Type} (m : Nat) (inv : α → Prop) (mu : α → Nat) (Tf : α → List EV) (Lf : α → List (Option EO)) (a : α) (s' : St) : Prop :=
  ∃ a', inv a' ∧ mu a' < mu a ∧ Weak m s' ⟨Tf a', ofO (Lf a'), (Lf a').length⟩

theorem loopW {P : Program} {m : Nat} {b : EB} {Q : Exit → St → Tok → Prop} {s : St} (s' : St) (hw : Weak m s s') (h : LoopT P m b Q s') : LoopT P m b Q s := by
  obtain ⟨I, k0, s0, h1, h2⟩ := h
  exact ⟨I, k0, s0, hw.trans h1, h2⟩
theorem eloop {α : Type} {P : Program} {m n : Nat} {b : EB} {Q : Exit → St → Tok → Prop} {T : List EV} {H : Nat → Option EO} (inv : α → Prop) (mu : α → Nat) (Tf : α → List EV) (Lf : α → List (Option EO)) (a0 : α) (gl : List Nat)
    (hi : inv a0) (hT : NormT (gOf gl) (Lf a0).length T (Tf a0)) (hL : NormL (gOf gl) H (Lf a0).length 0 (Lf a0)) (hinj : ((liveL 0 (Lf a0)).map (gOf gl)).Nodup) (hg : ∀ o, o < m → gOf gl o = o) (hm : m ≤ (Lf a0).length)
    (hr : ∀ a, inv a → ewT .on P m b (fun e s' t => match e with | .normal => Round m inv mu Tf Lf a s' | e => Q e s' t) ⟨Tf a, ofO (Lf a), (Lf a).length⟩) : LoopT P m b Q ⟨T, H, n⟩ := by
  refine ⟨fun k s => ∃ a, inv a ∧ mu a = k ∧ s = ⟨Tf a, ofO (Lf a), (Lf a).length⟩, mu a0, _, weak_norm gl _ _ hT hL hinj hg hm, ⟨a0, hi, rfl, rfl⟩, ?_⟩
  rintro k s ⟨a, ha, rfl, rfl⟩
  refine ew_mono ?_ (hr a ha)
  intro e s' h
  cases e with
  | normal =>
    obtain ⟨a', h1, h2, h3⟩ := h
    exact ⟨_, _, h3, h2, a', h1, rfl, rfl⟩
  | _ => exact h
theorem round {α : Type} {m n : Nat} {inv : α → Prop} {mu : α → Nat} {Tf : α → List EV} {Lf : α → List (Option EO)} {a : α} {T : List EV} {H : Nat → Option EO} (a' : α) (gl : List Nat)
    (hi : inv a') (hk : mu a' < mu a) (hT : NormT (gOf gl) (Lf a').length T (Tf a')) (hL : NormL (gOf gl) H (Lf a').length 0 (Lf a')) (hinj : ((liveL 0 (Lf a')).map (gOf gl)).Nodup) (hg : ∀ o, o < m → gOf gl o = o) (hm : m ≤ (Lf a').length) : Round m inv mu Tf Lf a ⟨T, H, n⟩ :=
  ⟨a', hi, hk, weak_norm gl _ _ hT hL hinj hg hm⟩

/-! ### bytes -/
def cb (b : UInt8) : List FV := [.lit (.int .u8 b.toNat)]
def bsv (l : List UInt8) : List (List FV) := l.map cb
@[simp] theorem bsv_len (l : List UInt8) : (bsv l).length = l.length := by simp [bsv]
@[simp] theorem bsv_app (l k : List UInt8) : bsv l ++ bsv k = bsv (l ++ k) := by simp [bsv]
@[simp] theorem bsv_take (l : List UInt8) (n : Nat) : (bsv l).take n = bsv (l.take n) := by simp [bsv]
@[simp] theorem bsv_drop (l : List UInt8) (n : Nat) : (bsv l).drop n = bsv (l.drop n) := by simp [bsv]
@[simp] theorem bsv_tail (l : List UInt8) : (bsv l).tail = bsv l.tail := by cases l <;> rfl
@[simp] theorem bsv_nil : bsv [] = [] := rfl
def I (k : IntKind) (n : Int) : EV := .v (.c (.fz (.lit (.int k n))))
/-- A frozen slice of bytes. -/
def Bs (l : List UInt8) : EV := .v (.c (.fz (.sl 1 (bsv l))))

/-- Bytes as a string. -/
def strb (l : List UInt8) : ByteArray := ⟨l.toArray⟩
@[simp] theorem bytesOf_bsv (l : List UInt8) : bytesOf (bsv l) = some (l.map fun b => (b.toNat : Int)) := by
  induction l with
  | nil => rfl
  | cons b r ih => simp only [bsv, List.map_cons, cb] at *; simp only [bytesOf, ih]; rfl
@[simp] theorem strOf_map (l : List UInt8) : strOf (l.map fun b => (b.toNat : Int)) = strb l := by
  have h : ((fun n : Int => UInt8.ofNat n.toNat) ∘ fun b : UInt8 => (b.toNat : Int)) = id := by funext b; simp
  rw [strOf, List.map_map, h, List.map_id]
  rfl
theorem bytes_list (s : ByteArray) : s.toList = s.data.toList := by
  rw [ByteArray.toList_eq]
@[simp] theorem strb_list (l : List UInt8) : (strb l).toList = l := by
  rw [bytes_list]; rfl
@[simp] theorem strb_size (l : List UInt8) : (strb l).size = l.length := rfl
@[simp] theorem lit_list (l : List UInt8) : ByteArray.toList ⟨l.toArray⟩ = l := strb_list l
/-- Bytes as cells. -/
def hc (l : List UInt8) : List EC := l.map fun b => .fz (.lit (.int .u8 b.toNat))
def hf (l : List UInt8) : List FV := l.map fun b => .lit (.int .u8 b.toNat)
@[simp] theorem hc_len (l : List UInt8) : (hc l).length = l.length := by simp [hc]
@[simp] theorem hf_len (l : List UInt8) : (hf l).length = l.length := by simp [hf]
@[simp] theorem hc_take (l : List UInt8) (n : Nat) : (hc l).take n = hc (l.take n) := by simp [hc]
@[simp] theorem hc_drop (l : List UInt8) (n : Nat) : (hc l).drop n = hc (l.drop n) := by simp [hc]
@[simp] theorem frz_hc (l : List UInt8) : frzAll (hc l) = some (hf l) := by
  induction l with
  | nil => rfl
  | cons b r ih => simp only [hc, List.map_cons, frzAll] at *; rw [ih]; rfl
@[simp] theorem conAll_hc (H : Nat → Option EO) (ids : List Nat) (l : List UInt8) : conAll H ids (hc l) = some (hc l) := by
  induction l with
  | nil => rfl
  | cons b r ih => simp only [hc, List.map_cons, conAll] at *; rw [ih]; rfl
@[simp] theorem strAll_hc (ids : List Nat) (l : List UInt8) : strAll ids (hc l) = some (hc l) := by
  induction l with
  | nil => rfl
  | cons b r ih => simp only [hc, List.map_cons, strAll] at *; rw [ih]; rfl
@[simp] theorem refs_hc (l : List UInt8) : (hc l).flatMap refsC = [] := by
  induction l with
  | nil => rfl
  | cons b r ih => simp only [hc, List.map_cons, List.flatMap_cons] at *; rw [ih]; rfl
@[simp] theorem fz_hc (ids : List Nat) (l : List UInt8) : (hc l).flatMap (fzC ids) = [] := by
  induction l with
  | nil => rfl
  | cons b r ih => simp only [hc, List.map_cons, List.flatMap_cons] at *; rw [ih]; rfl
@[simp] theorem ren_hc (g : Nat → Nat) (l : List UInt8) : (hc l).map (renC g) = hc l := by
  induction l with
  | nil => rfl
  | cons b r ih => simp only [hc, List.map_cons] at *; rw [ih]; rfl
@[simp] theorem fz_map_hf (l : List UInt8) : (hf l).map EC.fz = hc l := by simp [hf, hc]
@[simp] theorem hf_take (l : List UInt8) (n : Nat) : (hf l).take n = hf (l.take n) := by simp [hf]
@[simp] theorem hf_drop (l : List UInt8) (n : Nat) : (hf l).drop n = hf (l.drop n) := by simp [hf]
@[simp] theorem bsv_flat (l : List UInt8) : (bsv l).flatten = hf l := by
  induction l with
  | nil => rfl
  | cons b r ih => simp only [bsv, hf, List.map_cons, List.flatten_cons, cb, List.cons_append, List.nil_append] at *; rw [ih]
@[simp] theorem hf_one (l : List UInt8) : (hf l).map (fun x => [x]) = bsv l := by simp [hf, bsv, cb]
/-- No bytes but 0, as many as a sum has. -/
def hz : List UInt8 := List.replicate 32 0
def zU8 : List Value := List.replicate 32 (.int .u8 0)
@[simp] theorem hz_len : hz.length = 32 := rfl
@[simp] theorem zU8_len : zU8.length = 32 := rfl
@[simp] theorem zU8_litc : zU8.map litc = hc hz := rfl
@[simp] theorem zU8_litc' : List.map (fun v => EC.fz (FV.lit v)) zU8 = hc hz := rfl
@[simp] theorem zU8_lit : List.map FV.lit zU8 = hf hz := rfl
@[simp] theorem hz_take : hz.take 32 = hz := rfl
@[simp] theorem hz_drop : hz.drop 32 = [] := rfl
theorem hc_inj {l m : List UInt8} (h : l.map (fun b => (b.toNat : Int)) = m.map (fun b => (b.toNat : Int))) : l = m := by
  induction l generalizing m with
  | nil => cases m with
    | nil => rfl
    | cons _ _ => simp at h
  | cons a l ih => cases m with
    | nil => simp at h
    | cons b m =>
      simp only [List.map_cons, List.cons.injEq] at h
      rw [ih h.2]
      congr 1
      apply UInt8.toNat_inj.1
      omega
@[simp] theorem hc_iff (l m : List UInt8) : (l.map (fun b => (b.toNat : Int)) = m.map (fun b => (b.toNat : Int))) ↔ l = m := ⟨hc_inj, fun h => by rw [h]⟩
@[simp] theorem intsOf_hc (l : List UInt8) : intsOf .u8 (hc l) = some (l.map fun b => (b.toNat : Int)) := by
  induction l with
  | nil => rfl
  | cons b r ih => simp only [hc, List.map_cons] at *; simp only [intsOf, if_true, ih]; rfl
/-- A sum. -/
def Ag (l : List UInt8) : EV := .v (.agg (hc l))
theorem wrap_i64 {n : Int} (h1 : -9223372036854775808 ≤ n) (h2 : n ≤ 9223372036854775807) : IntKind.i64.wrap n = n := IntWalk.i64_in n ⟨h1, h2⟩
theorem wrap_u8 {n : Int} (h1 : 0 ≤ n) (h2 : n ≤ 255) : IntKind.u8.wrap n = n := IntWalk.u8_in n ⟨h1, h2⟩
theorem wrap_u64 {n : Int} (h1 : 0 ≤ n) (h2 : n ≤ 18446744073709551615) : IntKind.u64.wrap n = n := by
  simp [IntKind.wrap, IntKind.bits, IntKind.signed]; omega

theorem wrap_u8_nat (n : Nat) : IntKind.u8.wrap (n : Int) = ((b8 n).toNat : Int) := by
  rw [IntKind.wrap_u8]
  simp [b8]
theorem ibit_xor_u8 (x y : UInt8) : ibit .xor .u8 x.toNat y.toNat = (x ^^^ y).toNat := by
  have h1 : BitVec.ofInt IntKind.u8.bits (x.toNat : Int) = x.toBitVec := by
    simp [IntKind.bits]
  have h2 : BitVec.ofInt IntKind.u8.bits (y.toNat : Int) = y.toBitVec := by
    simp [IntKind.bits]
  have h3 : (BitVec.ofInt IntKind.u8.bits (x.toNat : Int) ^^^ BitVec.ofInt IntKind.u8.bits (y.toNat : Int)).toNat = (x ^^^ y).toNat := by
    rw [h1, h2]; rfl
  refine (congrArg (fun n : Nat => IntKind.u8.wrap (n : Int)) h3).trans ?_
  exact IntWalk.u8_in _ ⟨by omega, by have := (x ^^^ y).toNat_lt; simp at *; omega⟩
@[simp] theorem pun_not (b : Bool) : pun .not (.bool b) = some (.bool !b) := rfl
@[simp] theorem pun_neg (k : IntKind) (n : Int) : pun .neg (.int k n) = some (.int k (k.wrap (-n))) := by simp [pun]
@[simp] theorem pun_xor (n : Int) : pun .xor (.int .i64 n) = some (.int .i64 (IntKind.i64.wrap (-1 - n))) := by
  have h1 : (BitVec.ofInt IntKind.i64.bits (-1) ^^^ BitVec.ofInt IntKind.i64.bits n) = ~~~ (BitVec.ofInt 64 n) := by
    have : BitVec.ofInt IntKind.i64.bits (-1) = BitVec.allOnes 64 := rfl
    rw [this]
    exact BitVec.allOnes_xor
  have h2 : (BitVec.ofInt IntKind.i64.bits (-1) ^^^ BitVec.ofInt IntKind.i64.bits n).toNat = (~~~ (BitVec.ofInt 64 n)).toNat := by rw [h1]; rfl
  simp only [pun, Option.some.injEq, Value.int.injEq, true_and]
  refine (congrArg (fun m : Nat => IntKind.i64.wrap (m : Int)) h2).trans ?_
  rw [BitVec.toNat_not, BitVec.toNat_ofInt]
  simp [IntKind.wrap, IntKind.bits, IntKind.signed]
  omega
theorem ishr_nat (k : IntKind) (n j : Nat) (h : j ≤ k.bits) : ishr k (n : Int) (j : Int) = ((n / 2 ^ j : Nat) : Int) := by
  simp only [ishr, Int.toNat_natCast]
  rw [show min j k.bits = j by omega, Int.fdiv_eq_ediv_of_nonneg _ (by have : (0:Int) < 2 ^ j := Int.pow_pos (by omega); omega)]
  simp
theorem ishr_u64 (n j : Nat) (h : 8 * j ≤ 64) : ishr .u64 (n : Int) (8 * (j : Int)) = ((n / 256 ^ j : Nat) : Int) := by
  have := ishr_nat .u64 n (8 * j) h
  rw [Nat.pow_mul] at this
  simpa using this
theorem xor255 (c : UInt8) : (c ^^^ 255).toNat = 255 - c.toNat := by
  have h1 : (c ^^^ 255).toBitVec = ~~~ c.toBitVec := by
    have : (255 : UInt8).toBitVec = BitVec.allOnes 8 := rfl
    rw [UInt8.toBitVec_xor, this, BitVec.xor_allOnes]
  have h2 : (c ^^^ 255).toNat = (c ^^^ 255).toBitVec.toNat := rfl
  rw [h2, h1, BitVec.toNat_not]
  rfl
theorem sub255 (c : UInt8) : IntKind.u8.wrap (255 - (c.toNat : Int)) = ((c ^^^ 255).toNat : Int) := by
  have := c.toNat_lt
  rw [xor255, wrap_u8 (by omega) (by simp at *; omega)]
  simp at this
  omega
theorem ishr_pow (k : IntKind) (a : Int) (j : Nat) (h : j ≤ k.bits) : ishr k a (j : Int) = a / 2 ^ j := by
  simp only [ishr, Int.toNat_natCast]
  rw [show min j k.bits = j by omega, Int.fdiv_eq_ediv_of_nonneg _ (by have : (0:Int) < 2 ^ j := Int.pow_pos (by omega); omega)]
@[simp] theorem ishr_32 (a : Int) : ishr .u64 a 32 = a / 4294967296 := ishr_pow .u64 a 32 (by decide)
@[simp] theorem ishr_16 (a : Int) : ishr .u64 a 16 = a / 65536 := ishr_pow .u64 a 16 (by decide)
@[simp] theorem ishr_8 (a : Int) : ishr .u64 a 8 = a / 256 := ishr_pow .u64 a 8 (by decide)
theorem byte_u64 (n j : Nat) (h : 8 * j ≤ 64) : IntKind.u8.wrap (ishr .u64 (n : Int) (8 * (j : Int))) = ((b8 (n / 256 ^ j)).toNat : Int) := by
  rw [ishr_u64 n j h, wrap_u8_nat]
theorem xor_byte (n j : Nat) (m : UInt8) (h : 8 * j ≤ 64) : ibit .xor .u8 (IntKind.u8.wrap (ishr .u64 (n : Int) (8 * (j : Int)))) m.toNat = ((b8 (n / 256 ^ j) ^^^ m).toNat : Int) := by
  rw [byte_u64 n j h, ibit_xor_u8]
theorem ishr_256 (k : IntKind) (n j : Nat) (h : 8 * j ≤ k.bits) : ishr k (n : Int) (8 * (j : Int)) = ((n / 256 ^ j : Nat) : Int) := by
  have := ishr_nat k n (8 * j) h
  rw [Nat.pow_mul] at this
  simpa using this

end Go.EW
