/- An operation that is ready may be taken ahead of the quiet ones before it. -/
import Derived.Test.YtejjhgdnmknejaaEwL
namespace Go.EW
open Go

/-! ### what an operation's outcome hangs on -/
def tmpsOf (l : List Opd) : List Nat := l.filterMap fun | .t i => some i | .k _ => none
def EOp.tmps (e : EOp) : List Nat := tmpsOf e.opds
def unrel (z e : EOp) : Bool :=
  (match z.dst with | some d => !(e.tmps.contains d) && (e.dst != some d) | none => true) &&
  (match e.dst with | some d => !(z.tmps.contains d) | none => true)

theorem nth_set_ne {T : List EV} {d i : Nat} {v : EV} (h : d ≠ i) : nth (T.set d v) i = nth T i := by
  rw [nth_eq, nth_eq, List.getElem?_set_ne h]

theorem ev_setD {T : List EV} {d : Option Nat} {v : EV} {x : Opd} (h : ∀ i, x = .t i → d ≠ some i) : ev (setD T d v) x = ev T x := by
  cases x with
  | k _ => rfl
  | t i =>
    cases d with
    | none => rfl
    | some j => exact nth_set_ne (fun e => h i rfl (by rw [e]))

theorem mem_tmps {l : List Opd} {i : Nat} (h : Opd.t i ∈ l) : i ∈ tmpsOf l := by
  unfold tmpsOf
  exact List.mem_filterMap.2 ⟨_, h, rfl⟩

theorem evs_setD {T : List EV} {d : Option Nat} {v : EV} {l : List Opd} (h : ∀ i, d = some i → i ∉ tmpsOf l) : ∀ x ∈ l, ev (setD T d v) x = ev T x := by
  intro x hx
  refine ev_setD ?_
  intro i hi hd
  subst hi
  exact h i hd (mem_tmps hx)

theorem unrel_spec {z e : EOp} (h : unrel z e = true) : (∀ d, z.dst = some d → d ∉ e.tmps) ∧ (∀ d, z.dst = some d → e.dst ≠ some d) ∧ (∀ d, e.dst = some d → d ∉ z.tmps) := by
  unfold unrel at h
  rw [Bool.and_eq_true] at h
  obtain ⟨h1, h2⟩ := h
  refine ⟨?_, ?_, ?_⟩
  · intro d hd
    rw [hd] at h1
    simp at h1
    exact h1.1
  · intro d hd
    rw [hd] at h1
    simp at h1
    exact h1.2
  · intro d hd
    rw [hd] at h2
    simpa using h2

theorem tmps_k {e : EOp} {d : Option Nat} (h : ∀ i, d = some i → i ∉ e.tmps) : ∀ i, d = some i → i ∉ tmpsOf e.k.opds := by
  intro i hi hm
  refine h i hi ?_
  unfold EOp.tmps EOp.opds tmpsOf at *
  rw [List.filterMap_append]
  exact List.mem_append_right _ hm

theorem gd_setD {e : EOp} {T : List EV} {d : Option Nat} {v : EV} (h : ∀ i, d = some i → i ∉ e.tmps) : gdOK e.gd (setD T d v) = gdOK e.gd T := by
  unfold gdOK
  cases hg : e.gd with
  | none => rfl
  | some p =>
    obtain ⟨t, want⟩ := p
    have : nth (setD T d v) t = nth T t := by
      refine ev_setD (x := .t t) ?_
      intro i hi hd
      simp at hi; subst hi
      refine h t hd ?_
      unfold EOp.tmps EOp.opds
      exact mem_tmps (by simp [hg])
    simp only [this]

theorem looks_setD {e : EOp} {T : List EV} {d : Option Nat} {v : EV} (h : ∀ i, d = some i → i ∉ e.tmps) : e.k.looks (setD T d v) = e.k.looks T := by
  have hk := tmps_k h
  cases hkk : e.k with
  | q qq => rw [hkk] at hk; exact looks_T (evs_setD hk)
  | _ => rfl

theorem setD_comm {T : List EV} {d e : Option Nat} {v u : EV} (h : ∀ i, d = some i → e ≠ some i) : setD (setD T d v) e u = setD (setD T e u) d v := by
  cases d with
  | none => rfl
  | some i =>
    cases e with
    | none => rfl
    | some j => exact List.set_comm _ _ (fun e' => h i rfl (by rw [e']))

theorem addO_ne {H : Nat → Option EO} {id : Nat} {ob : Option EO} {o : Nat} (h : o ≠ id) : addO H id ob o = H o := by
  cases ob with
  | none => rfl
  | some x => exact upd_ne _ _ _ h

theorem upd_comm {α : Type} {f : Nat → α} {i j : Nat} {a b : α} (h : i ≠ j) : upd (upd f i a) j b = upd (upd f j b) i a := by
  funext o
  unfold upd
  by_cases h1 : o = j
  · by_cases h2 : o = i
    · exact absurd (h2.symm.trans h1) h
    · simp [h1, Ne.symm h]
  · by_cases h2 : o = i <;> simp [h1, h2, h]

theorem addO_upd {H : Nat → Option EO} {id i : Nat} {ob : Option EO} {x : Option EO} (h : i ≠ id) : upd (addO H id ob) i x = addO (upd H i x) id ob := by
  cases ob with
  | none => rfl
  | some y => exact upd_comm h.symm
theorem addO_addO {H : Nat → Option EO} {id i : Nat} {ob ob' : Option EO} (h : i ≠ id) : addO (addO H id ob) i ob' = addO (addO H i ob') id ob := by
  cases ob' with
  | none => rfl
  | some y => exact addO_upd h
theorem addO_dropO {H : Nat → Option EO} {id : Nat} {ob : Option EO} {old : Option Nat} (h : old ≠ some id) : dropO (addO H id ob) old = addO (dropO H old) id ob := by
  cases old with
  | none => rfl
  | some o => exact addO_upd (fun e => h (by rw [e]))

/-! ### reach -/
theorem stepR_sub {H : Nat → Option EO} {l : List Nat} : ∀ o ∈ l, o ∈ stepR H l := fun _ h => List.mem_append_left _ h
theorem reach_sub {H : Nat → Option EO} {l : List Nat} : ∀ o ∈ l, o ∈ reach H l := fun o h => stepR_sub o (stepR_sub o (stepR_sub o h))
theorem stepR_add {H : Nat → Option EO} {id : Nat} {ob : Option EO} {l : List Nat} (h : id ∉ l) : stepR (addO H id ob) l = stepR H l := by
  unfold stepR
  congr 1
  have : ∀ o ∈ l, refsAt (addO H id ob) o = refsAt H o := by
    intro o ho
    unfold refsAt
    rw [addO_ne (by rintro rfl; exact h ho)]
  clear h
  induction l with
  | nil => rfl
  | cons a r ih =>
    simp only [List.flatMap_cons]
    rw [this a (by simp), ih (fun o ho => this o (by simp [ho]))]
theorem reach_add {H : Nat → Option EO} {id : Nat} {ob : Option EO} {l : List Nat} (h : id ∉ reach H l) : reach (addO H id ob) l = reach H l := by
  unfold reach at *
  have h2 : id ∉ stepR H (stepR H l) := fun e => h (stepR_sub _ e)
  have h1 : id ∉ stepR H l := fun e => h2 (stepR_sub _ e)
  have h0 : id ∉ l := fun e => h1 (stepR_sub _ e)
  rw [stepR_add h0, stepR_add h1, stepR_add h2]

/-- All that an operation can come to by its operands. -/
def EOp.refs (e : EOp) (T : List EV) : List Nat := e.k.opds.flatMap fun x => refsV (ev T x)

/-- The places D are new to the operation, and its own places are free. -/
structure Fresh (n : Nat) (e : EOp) (D : List Nat) (T : List EV) (H : Nat → Option EO) : Prop where
  new : ∀ o ∈ reach H (e.refs T), o ∉ D
  free : ∀ k, k < 16 → H (n + 16 * e.i + k) = none

theorem refs_asC {T : List EV} {x : Opd} {c : EC} (h : asC (ev T x) = some c) : refsC c = refsV (ev T x) := by
  rw [asC_some h]; rfl

theorem elems2_add {H : Nat → Option EO} {id : Nat} {ob : Option EO} {es : Nat} {c : EC} (h : id ∉ refsC c) : elems2 (addO H id ob) es c = elems2 H es c := by
  cases c with
  | row o len => simp only [elems2, elemsOf]; rw [addO_ne (by simp [refsC] at h; exact fun e => h e.symm)]
  | bsl o k len => simp only [elems2]; rw [addO_ne (by simp [refsC] at h; exact fun e => h e.symm)]
  | _ => rfl

theorem stoAt_add {H : Nat → Option EO} {id : Nat} {ob : Option EO} {p : EC} {cs : List EC} (h : id ∉ refsC p) : stoAt (addO H id ob) p cs = stoAt H p cs := by
  cases p with
  | ptr o k => simp only [stoAt]; rw [addO_ne (by simp [refsC] at h; exact fun e => h e.symm)]
  | eptr o es i k => simp only [stoAt]; rw [addO_ne (by simp [refsC] at h; exact fun e => h e.symm)]
  | _ => rfl
theorem stoAt_ref {H : Nat → Option EO} {p : EC} {cs : List EC} {i : Nat} {x : EO} (h : stoAt H p cs = some (i, x)) : i ∈ refsC p := by
  unfold stoAt at h
  split at h
  · split at h
    · split at h
      · simp at h; simp [refsC, h.1]
      · simp at h
    · simp at h
  · split at h
    · split at h
      · replace h := bind_some' h; obtain ⟨y, _, h⟩ := h
        replace h := bind_some' h; obtain ⟨fs, _, h⟩ := h
        split at h
        · simp at h; simp [refsC, h.1]
        · simp at h
      · simp at h
    · simp at h
  · simp at h
theorem baseOf_add {H : Nat → Option EO} {id : Nat} {ob : Option EO} {ty : TypeId} {es : Nat} {c : EC} (h : id ∉ refsC c) : baseOf (addO H id ob) ty es c = baseOf H ty es c := by
  cases c with
  | row o len => simp only [baseOf]; rw [addO_ne (by simp [refsC] at h; exact fun e => h e.symm)]
  | _ => rfl
theorem baseOf_ref {H : Nat → Option EO} {ty : TypeId} {es : Nat} {c : EC} {old : Option Nat} {xs : List (List FV)} (h : baseOf H ty es c = some (old, xs)) : ∀ o, old = some o → o ∈ refsC c ∧ H o ≠ none := by
  intro o ho
  unfold baseOf at h
  split at h
  · unfold baseF at h
    split at h
    · simp at h; rw [← h.1] at ho; simp at ho
    · simp at h
  · rename_i o' len
    split at h
    · rename_i hH
      split at h
      · simp at h
        rw [← h.1] at ho
        simp at ho
        subst ho
        exact ⟨by simp [refsC], by rw [hH]; simp⟩
      · split at h
        · simp at h
          rw [← h.1] at ho
          simp at ho
          subst ho
          exact ⟨by simp [refsC], by rw [hH]; simp⟩
        · simp at h
    · simp at h
  · simp at h
theorem cpyAt_add {H : Nat → Option EO} {id : Nat} {ob : Option EO} {es : Nat} {c : EC} {ys : List (List FV)} (h : id ∉ refsC c) : cpyAt (addO H id ob) es c ys = cpyAt H es c ys := by
  cases c with
  | bsl o k len => simp only [cpyAt]; rw [addO_ne (by simp [refsC] at h; exact fun e => h e.symm)]
  | row o len => simp only [cpyAt]; rw [addO_ne (by simp [refsC] at h; exact fun e => h e.symm)]
  | rsl o k len => simp only [cpyAt]; rw [addO_ne (by simp [refsC] at h; exact fun e => h e.symm)]
  | _ => rfl
theorem cpyAt_ref {H : Nat → Option EO} {es : Nat} {c : EC} {ys : List (List FV)} {i n : Nat} {x : EO} (h : cpyAt H es c ys = some (i, x, n)) : i ∈ refsC c := by
  unfold cpyAt at h
  split at h
  · split at h
    · split at h
      · simp at h; simp [refsC, h.1]
      · simp at h
    · simp at h
  · split at h
    · split at h
      · simp at h; simp [refsC, h.1]
      · simp at h
    · simp at h
  · split at h
    · split at h
      · simp at h; simp [refsC, h.1]
      · simp at h
    · simp at h
  · simp at h

theorem conC_add {H : Nat → Option EO} {id : Nat} {ob : Option EO} {ids : List Nat} {c : EC} (h : id ∉ refsC c) : conC (addO H id ob) ids c = conC H ids c := by
  cases c with
  | row o len => simp only [conC]; rw [addO_ne (by simp [refsC] at h; exact fun e => h e.symm)]
  | bsl o k len => simp only [conC]; rw [addO_ne (by simp [refsC] at h; exact fun e => h e.symm)]
  | _ => rfl
theorem conAll_add {H : Nat → Option EO} {id : Nat} {ob : Option EO} {ids : List Nat} : ∀ {cs : List EC}, id ∉ cs.flatMap refsC → conAll (addO H id ob) ids cs = conAll H ids cs
  | [], _ => rfl
  | x :: r, h => by
    simp only [List.flatMap_cons, List.mem_append, not_or] at h
    simp only [conAll, conC_add h.1, conAll_add h.2]
theorem conV_add {H : Nat → Option EO} {id : Nat} {ob : Option EO} {ids : List Nat} {x : EV} (h : id ∉ refsV x) : conV (addO H id ob) ids x = conV H ids x := by
  cases x with
  | v t =>
    cases t with
    | c x => simp only [conV, conC_add (show id ∉ refsC x from h)]
    | agg cs => simp only [conV, conAll_add (show id ∉ cs.flatMap refsC from h)]
  | _ => rfl
theorem conArgs_add {H : Nat → Option EO} {id : Nat} {ob : Option EO} {ids : List Nat} : ∀ {xs : List EV}, id ∉ xs.flatMap refsV → conArgs (addO H id ob) ids xs = conArgs H ids xs
  | [], _ => rfl
  | x :: r, h => by
    simp only [List.flatMap_cons, List.mem_append, not_or] at h
    simp only [conArgs, conV_add h.1, conArgs_add h.2]
theorem objsIn_add {H : Nat → Option EO} {id : Nat} {ob : Option EO} {ids : List Nat} : ∀ {l : List Nat}, id ∉ l → objsIn (addO H id ob) ids l = objsIn H ids l
  | [], _ => rfl
  | x :: r, h => by
    simp only [List.mem_cons, not_or] at h
    simp only [objsIn, objsIn_add h.2]
    rw [addO_ne (fun e => h.1 e.symm)]

theorem after_add {H : Nat → Option EO} {id : Nat} {ob : Option EO} {ids : List Nat} {base : Nat} {H' : List (Option EO)} (h : id ∉ ids) (hr : ¬ (base ≤ id ∧ id < base + (H'.length - ids.length))) : after (addO H id ob) ids base H' = addO (after H ids base H') id ob := by
  cases ob with
  | none => rfl
  | some x =>
    funext o
    by_cases e : o = id
    · subst e
      show after (upd H o (some x)) ids base H' o = upd (after H ids base H') o (some x) o
      rw [upd_same]
      unfold after
      split
      · rename_i j hj
        exact absurd (List.mem_of_getElem? (idx_some hj)) h
      · rw [if_neg hr, upd_same]
    · rw [addO_ne e]
      unfold after
      rw [addO_ne e]

/-- A call's outcome, one new object aside. -/
theorem ECallAt_add {P : Program} {f : FuncId} {args : List EV} {H : Nat → Option EO} {base id : Nat} {ob : Option EO} {ok : Nat → Prop} {K : EV → (Nat → Option EO) → Prop}
    (hnew : id ∉ reach H (args.flatMap refsV)) (hr : ¬ (base ≤ id ∧ id < base + 16)) (hfree : ∀ k, k < 16 → H (base + k) = none)
    (h : ECallAt P f args (addO H id ob) base ok K) :
    ECallAt P f args H base ok (fun v H' => (∀ o, H o ≠ none → ¬ ok o → H' o = H o) ∧ K v (addO H' id ob)) := by
  obtain ⟨ids, args', Hc, post, h1, h2, h3, h4, h5, h6, h7⟩ := h
  rw [reach_add hnew] at h4
  have hid : id ∉ ids := fun e => hnew (h4 id e)
  rw [conArgs_add (fun e => hnew (reach_sub _ e))] at h1
  rw [objsIn_add hid] at h2
  have h5' : ∀ i ∈ ids, ok i ∨ ∀ y H', post y H' → after H ids base H' i = H i := by
    intro i hi
    refine (h5 i hi).imp (fun h => h) fun h y H' hp => ?_
    have hii : i ≠ id := fun e => hid (e ▸ hi)
    have h8 := h y H' hp
    have h9 := (h7 y H' hp).1.2
    rw [after_add hid (by rintro ⟨q1, q2⟩; exact hr ⟨q1, by omega⟩), addO_ne hii, addO_ne hii] at h8
    exact h8
  refine ⟨ids, args', Hc, post, h1, h2, h3, h4, h5', h6, ?_⟩
  intro y H' hp
  obtain ⟨⟨c1, c2⟩, c3⟩ := h7 y H' hp
  refine ⟨⟨c1, c2⟩, ?_, ?_⟩
  · intro o hL hno
    by_cases hoi : o ∈ ids
    · exact ((h5' o hoi).resolve_left hno) y H' hp
    unfold after
    split
    · rename_i j hj
      exact absurd (List.mem_of_getElem? (idx_some hj)) hoi
    · rw [if_neg]
      rintro ⟨q1, q2⟩
      refine hL ?_
      have := hfree (o - base) (by omega)
      rwa [show base + (o - base) = o by omega] at this
  · rwa [after_add hid (by rintro ⟨q1, q2⟩; exact hr ⟨q1, by omega⟩)] at c3

end Go.EW
