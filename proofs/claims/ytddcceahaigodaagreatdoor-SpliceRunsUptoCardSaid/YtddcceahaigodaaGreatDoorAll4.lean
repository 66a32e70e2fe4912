import Derived.Test.YtddcceahaigodaaGreatDoorAll3
import Derived.WideKeyEntry
namespace Go.EW
open Go
def tmpsOf (l : List Opd) : List Nat := l.filterMap fun | .t i => some i | .k _ => none
def EOp.tmps (e : EOp) : List Nat := tmpsOf e.opds
def unrel (z e : EOp) : Bool :=
 (match z.dst with | some d => !(e.tmps.contains d) && (e.dst != some d) | none => true) &&
 (match e.dst with | some d => !(z.tmps.contains d) | none => true)
theorem nth_set_ne {T : List EV} {d i : Nat} {v : EV} (h : d ≠ i) : nth (T.set d v) i = nth T i := by
 rw [nth_eq, nth_eq, List.getElem?_set_ne h]
theorem ev_setD {T : List EV} {d : Option Nat} {v : EV} {x : Opd} (h : ∀ i, x = .t i → d ≠ some i) : ev (setD T d v) x = ev T x := by
 cases x with
 | k _ => rfl
 | t i =>
  cases d with
  | none => rfl
  | some j => exact nth_set_ne (fun e => h i rfl (by rw [e]))
theorem mem_tmps {l : List Opd} {i : Nat} (h : Opd.t i ∈ l) : i ∈ tmpsOf l := by
 unfold tmpsOf
 exact List.mem_filterMap.2 ⟨_, h, rfl⟩
theorem evs_setD {T : List EV} {d : Option Nat} {v : EV} {l : List Opd} (h : ∀ i, d = some i → i ∉ tmpsOf l) : ∀ x ∈ l, ev (setD T d v) x = ev T x := by
 intro x hx
 refine ev_setD ?_
 intro i hi hd
 subst hi
 exact h i hd (mem_tmps hx)
theorem unrel_spec {z e : EOp} (h : unrel z e = true) : (∀ d, z.dst = some d → d ∉ e.tmps) ∧ (∀ d, z.dst = some d → e.dst ≠ some d) ∧ (∀ d, e.dst = some d → d ∉ z.tmps) := by
 unfold unrel at h
 rw [Bool.and_eq_true] at h
 obtain ⟨h1, h2⟩ := h
 refine ⟨?_, ?_, ?_⟩
 ·intro d hd
  rw [hd] at h1
  simp at h1
  exact h1.1
 ·intro d hd
  rw [hd] at h1
  simp at h1
  exact h1.2
 ·intro d hd
  rw [hd] at h2
  simpa using h2
theorem tmps_k {e : EOp} {d : Option Nat} (h : ∀ i, d = some i → i ∉ e.tmps) : ∀ i, d = some i → i ∉ tmpsOf e.k.opds := by
 intro i hi hm
 refine h i hi ?_
 unfold EOp.tmps EOp.opds tmpsOf at *
 rw [List.filterMap_append]
 exact List.mem_append_right _ hm
theorem gd_setD {e : EOp} {T : List EV} {d : Option Nat} {v : EV} (h : ∀ i, d = some i → i ∉ e.tmps) : gdOK e.gd (setD T d v) = gdOK e.gd T := by
 unfold gdOK
 cases hg : e.gd with
 | none => rfl
 | some p =>
  obtain ⟨t, want⟩ := p
  have : nth (setD T d v) t = nth T t := by
   refine ev_setD (x := .t t) ?_
   intro i hi hd
   simp at hi; subst hi
   refine h t hd ?_
   unfold EOp.tmps EOp.opds
   exact mem_tmps (by simp [hg])
  simp only [this]
theorem looks_setD {e : EOp} {T : List EV} {d : Option Nat} {v : EV} (h : ∀ i, d = some i → i ∉ e.tmps) : e.k.looks (setD T d v) = e.k.looks T := by
 have hk := tmps_k h
 cases hkk : e.k with
 | q qq => rw [hkk] at hk; exact looks_T (evs_setD hk)
 | _ => rfl
theorem setD_comm {T : List EV} {d e : Option Nat} {v u : EV} (h : ∀ i, d = some i → e ≠ some i) : setD (setD T d v) e u = setD (setD T e u) d v := by
 cases d with
 | none => rfl
 | some i =>
  cases e with
  | none => rfl
  | some j => exact List.set_comm _ _ (fun e' => h i rfl (by rw [e']))
theorem addO_ne {H : Nat → Option EO} {id : Nat} {ob : Option EO} {o : Nat} (h : o ≠ id) : addO H id ob o = H o := by
 cases ob with
 | none => rfl
 | some x => exact upd_ne _ _ _ h
theorem upd_comm {α : Type} {f : Nat → α} {i j : Nat} {a b : α} (h : i ≠ j) : upd (upd f i a) j b = upd (upd f j b) i a := by
 funext o
 unfold upd
 by_cases h1 : o = j
 ·by_cases h2 : o = i
  ·exact absurd (h2.symm.trans h1) h
  ·simp [h1, Ne.symm h]
 ·by_cases h2 : o = i <;> simp [h1, h2, h]
theorem addO_upd {H : Nat → Option EO} {id i : Nat} {ob : Option EO} {x : Option EO} (h : i ≠ id) : upd (addO H id ob) i x = addO (upd H i x) id ob := by
 cases ob with
 | none => rfl
 | some y => exact upd_comm h.symm
theorem addO_addO {H : Nat → Option EO} {id i : Nat} {ob ob' : Option EO} (h : i ≠ id) : addO (addO H id ob) i ob' = addO (addO H i ob') id ob := by
 cases ob' with
 | none => rfl
 | some y => exact addO_upd h
theorem addO_dropO {H : Nat → Option EO} {id : Nat} {ob : Option EO} {old : Option Nat} (h : old ≠ some id) : dropO (addO H id ob) old = addO (dropO H old) id ob := by
 cases old with
 | none => rfl
 | some o => exact addO_upd (fun e => h (by rw [e]))
theorem stepR_sub {H : Nat → Option EO} {l : List Nat} : ∀ o ∈ l, o ∈ stepR H l := fun _ h => List.mem_append_left _ h
theorem reach_sub {H : Nat → Option EO} {l : List Nat} : ∀ o ∈ l, o ∈ reach H l := fun o h => stepR_sub o (stepR_sub o (stepR_sub o h))
theorem stepR_add {H : Nat → Option EO} {id : Nat} {ob : Option EO} {l : List Nat} (h : id ∉ l) : stepR (addO H id ob) l = stepR H l := by
 unfold stepR
 congr 1
 have : ∀ o ∈ l, refsAt (addO H id ob) o = refsAt H o := by
  intro o ho
  unfold refsAt
  rw [addO_ne (by rintro rfl; exact h ho)]
 clear h
 induction l with
 | nil => rfl
 | cons a r ih =>
  simp only [List.flatMap_cons]
  rw [this a (by simp), ih (fun o ho => this o (by simp [ho]))]
theorem reach_add {H : Nat → Option EO} {id : Nat} {ob : Option EO} {l : List Nat} (h : id ∉ reach H l) : reach (addO H id ob) l = reach H l := by
 unfold reach at *
 have h2 : id ∉ stepR H (stepR H l) := fun e => h (stepR_sub _ e)
 have h1 : id ∉ stepR H l := fun e => h2 (stepR_sub _ e)
 have h0 : id ∉ l := fun e => h1 (stepR_sub _ e)
 rw [stepR_add h0, stepR_add h1, stepR_add h2]
def EOp.refs (e : EOp) (T : List EV) : List Nat := e.k.opds.flatMap fun x => refsV (ev T x)
structure Fresh (n : Nat) (e : EOp) (D : List Nat) (T : List EV) (H : Nat → Option EO) : Prop where
 new : ∀ o ∈ reach H (e.refs T), o ∉ D
 free : ∀ k, k < 16 → H (n + 16 * e.i + k) = none
theorem refs_asC {T : List EV} {x : Opd} {c : EC} (h : asC (ev T x) = some c) : refsC c = refsV (ev T x) := by
 rw [asC_some h]; rfl
theorem elems2_add {H : Nat → Option EO} {id : Nat} {ob : Option EO} {es : Nat} {c : EC} (h : id ∉ refsC c) : elems2 (addO H id ob) es c = elems2 H es c := by
 cases c with
 | row o len => simp only [elems2, elemsOf]; rw [addO_ne (by simp [refsC] at h; exact fun e => h e.symm)]
 | bsl o k len => simp only [elems2]; rw [addO_ne (by simp [refsC] at h; exact fun e => h e.symm)]
 | _ => rfl
theorem stoAt_add {H : Nat → Option EO} {id : Nat} {ob : Option EO} {p : EC} {cs : List EC} (h : id ∉ refsC p) : stoAt (addO H id ob) p cs = stoAt H p cs := by
 cases p with
 | ptr o k => simp only [stoAt]; rw [addO_ne (by simp [refsC] at h; exact fun e => h e.symm)]
 | eptr o es i k => simp only [stoAt]; rw [addO_ne (by simp [refsC] at h; exact fun e => h e.symm)]
 | _ => rfl
theorem stoAt_ref {H : Nat → Option EO} {p : EC} {cs : List EC} {i : Nat} {x : EO} (h : stoAt H p cs = some (i, x)) : i ∈ refsC p := by
 unfold stoAt at h
 split at h
 ·split at h
  ·split at h
   ·simp at h; simp [refsC, h.1]
   ·simp at h
  ·simp at h
 ·split at h
  ·split at h
   ·replace h := bind_some' h; obtain ⟨y, _, h⟩ := h
    replace h := bind_some' h; obtain ⟨fs, _, h⟩ := h
    split at h
    ·simp at h; simp [refsC, h.1]
    ·simp at h
   ·simp at h
  ·simp at h
 ·simp at h
theorem baseOf_add {H : Nat → Option EO} {id : Nat} {ob : Option EO} {ty : TypeId} {es : Nat} {c : EC} (h : id ∉ refsC c) : baseOf (addO H id ob) ty es c = baseOf H ty es c := by
 cases c with
 | row o len => simp only [baseOf]; rw [addO_ne (by simp [refsC] at h; exact fun e => h e.symm)]
 | _ => rfl
theorem baseOf_ref {H : Nat → Option EO} {ty : TypeId} {es : Nat} {c : EC} {old : Option Nat} {xs : List (List FV)} (h : baseOf H ty es c = some (old, xs)) : ∀ o, old = some o → o ∈ refsC c ∧ H o ≠ none := by
 intro o ho
 unfold baseOf at h
 split at h
 ·unfold baseF at h
  split at h
  ·simp at h; rw [← h.1] at ho; simp at ho
  ·split at h
   ·simp at h; rw [← h.1] at ho; simp at ho
   ·simp at h
  ·simp at h
 ·rename_i o' len
  split at h
  ·rename_i hH
   split at h
   ·simp at h
    rw [← h.1] at ho
    simp at ho
    subst ho
    exact ⟨by simp [refsC], by rw [hH]; simp⟩
   ·split at h
    ·simp at h
     rw [← h.1] at ho
     simp at ho
     subst ho
     exact ⟨by simp [refsC], by rw [hH]; simp⟩
    ·simp at h
  ·simp at h
 ·simp at h
theorem cpyAt_add {H : Nat → Option EO} {id : Nat} {ob : Option EO} {es : Nat} {c : EC} {ys : List (List FV)} (h : id ∉ refsC c) : cpyAt (addO H id ob) es c ys = cpyAt H es c ys := by
 cases c with
 | bsl o k len => simp only [cpyAt]; rw [addO_ne (by simp [refsC] at h; exact fun e => h e.symm)]
 | row o len => simp only [cpyAt]; rw [addO_ne (by simp [refsC] at h; exact fun e => h e.symm)]
 | rsl o k len => simp only [cpyAt]; rw [addO_ne (by simp [refsC] at h; exact fun e => h e.symm)]
 | _ => rfl
theorem cpyAt_ref {H : Nat → Option EO} {es : Nat} {c : EC} {ys : List (List FV)} {i n : Nat} {x : EO} (h : cpyAt H es c ys = some (i, x, n)) : i ∈ refsC c := by
 unfold cpyAt at h
 split at h
 ·split at h
  ·split at h
   ·simp at h; simp [refsC, h.1]
   ·simp at h
  ·simp at h
 ·split at h
  ·split at h
   ·simp at h; simp [refsC, h.1]
   ·simp at h
  ·simp at h
 ·split at h
  ·split at h
   ·simp at h; simp [refsC, h.1]
   ·simp at h
  ·simp at h
 ·simp at h
theorem conC_add {H : Nat → Option EO} {id : Nat} {ob : Option EO} {ids : List Nat} {c : EC} (h : id ∉ refsC c) : conC (addO H id ob) ids c = conC H ids c := by
 cases c with
 | row o len => simp only [conC]; rw [addO_ne (by simp [refsC] at h; exact fun e => h e.symm)]
 | bsl o k len => simp only [conC]; rw [addO_ne (by simp [refsC] at h; exact fun e => h e.symm)]
 | _ => rfl
theorem conAll_add {H : Nat → Option EO} {id : Nat} {ob : Option EO} {ids : List Nat} : ∀ {cs : List EC}, id ∉ cs.flatMap refsC → conAll (addO H id ob) ids cs = conAll H ids cs
 | [], _ => rfl
 | x :: r, h => by
  simp only [List.flatMap_cons, List.mem_append, not_or] at h
  simp only [conAll, conC_add h.1, conAll_add h.2]
theorem conV_add {H : Nat → Option EO} {id : Nat} {ob : Option EO} {ids : List Nat} {x : EV} (h : id ∉ refsV x) : conV (addO H id ob) ids x = conV H ids x := by
 cases x with
 | v t =>
  cases t with
  | c x => simp only [conV, conC_add (show id ∉ refsC x from h)]
  | agg cs => simp only [conV, conAll_add (show id ∉ cs.flatMap refsC from h)]
 | _ => rfl
theorem conArgs_add {H : Nat → Option EO} {id : Nat} {ob : Option EO} {ids : List Nat} : ∀ {xs : List EV}, id ∉ xs.flatMap refsV → conArgs (addO H id ob) ids xs = conArgs H ids xs
 | [], _ => rfl
 | x :: r, h => by
  simp only [List.flatMap_cons, List.mem_append, not_or] at h
  simp only [conArgs, conV_add h.1, conArgs_add h.2]
theorem objsIn_add {H : Nat → Option EO} {id : Nat} {ob : Option EO} {ids : List Nat} : ∀ {l : List Nat}, id ∉ l → objsIn (addO H id ob) ids l = objsIn H ids l
 | [], _ => rfl
 | x :: r, h => by
  simp only [List.mem_cons, not_or] at h
  simp only [objsIn, objsIn_add h.2]
  rw [addO_ne (fun e => h.1 e.symm)]
theorem after_add {H : Nat → Option EO} {id : Nat} {ob : Option EO} {ids : List Nat} {base : Nat} {H' : List (Option EO)} (h : id ∉ ids) (hr : ¬ (base ≤ id ∧ id < base + (H'.length - ids.length))) : after (addO H id ob) ids base H' = addO (after H ids base H') id ob := by
 cases ob with
 | none => rfl
 | some x =>
  funext o
  by_cases e : o = id
  ·subst e
   show after (upd H o (some x)) ids base H' o = upd (after H ids base H') o (some x) o
   rw [upd_same]
   unfold after
   split
   ·rename_i j hj
    exact absurd (List.mgE (idx_some hj)) h
   ·rw [if_neg hr, upd_same]
  ·rw [addO_ne e]
   unfold after
   rw [addO_ne e]
theorem ECallAt_add {P : Program} {f : FuncId} {args : List EV} {H : Nat → Option EO} {base id : Nat} {ob : Option EO} {ok : Nat → Prop} {K : EV → (Nat → Option EO) → Prop}
  (hnew : id ∉ reach H (args.flatMap refsV)) (hr : ¬ (base ≤ id ∧ id < base + 16)) (hfree : ∀ k, k < 16 → H (base + k) = none)
  (h : ECallAt P f args (addO H id ob) base ok K) :
  ECallAt P f args H base ok (fun v H' => (∀ o, H o ≠ none → ¬ ok o → H' o = H o) ∧ K v (addO H' id ob)) := by
 obtain ⟨ids, args', Hc, post, h1, h2, h3, h4, h5, h6, h7⟩ := h
 rw [reach_add hnew] at h4
 have hid : id ∉ ids := fun e => hnew (h4 id e)
 rw [conArgs_add (fun e => hnew (reach_sub _ e))] at h1
 rw [objsIn_add hid] at h2
 have h5' : ∀ i ∈ ids, ok i ∨ ∀ y H', post y H' → after H ids base H' i = H i := by
  intro i hi
  refine (h5 i hi).imp (fun h => h) fun h y H' hp => ?_
  have hii : i ≠ id := fun e => hid (e ▸ hi)
  have h8 := h y H' hp
  have h9 := (h7 y H' hp).1.2
  rw [after_add hid (by rintro ⟨q1, q2⟩; exact hr ⟨q1, by omega⟩), addO_ne hii, addO_ne hii] at h8
  exact h8
 refine ⟨ids, args', Hc, post, h1, h2, h3, h4, h5', h6, ?_⟩
 intro y H' hp
 obtain ⟨⟨c1, c2⟩, c3⟩ := h7 y H' hp
 refine ⟨⟨c1, c2⟩, ?_, ?_⟩
 ·intro o hL hno
  by_cases hoi : o ∈ ids
  ·exact ((h5' o hoi).resolve_left hno) y H' hp
  unfold after
  split
  ·rename_i j hj
   exact absurd (List.mgE (idx_some hj)) hoi
  ·rw [if_neg]
   rintro ⟨q1, q2⟩
   refine hL ?_
   have := hfree (o - base) (by omega)
   rwa [show base + (o - base) = o by omega] at this
 ·rwa [after_add hid (by rintro ⟨q1, q2⟩; exact hr ⟨q1, by omega⟩)] at c3
end Go.EW
namespace Go.EW
open Go
theorem refs_mem {T : List EV} {l : List Opd} {x : Opd} {c : EC} (hx : x ∈ l) (h : asC (ev T x) = some c) : ∀ o ∈ refsC c, o ∈ l.flatMap fun x => refsV (ev T x) := by
 intro o ho
 rw [refs_asC h] at ho
 exact List.mem_flatMap.2 ⟨x, hx, ho⟩
theorem opK0_swap {P : Program} {k : EK} {ide idz : Nat} {ob : Option EO} {ok ok1 : Nat → Prop} {K : EV → (Nat → Option EO) → Prop} {T T1 : List EV} {H : Nat → Option EO}
  (hT : ∀ x ∈ k.opds, ev T1 x = ev T x) (hnew : idz ∉ reach H (k.opds.flatMap fun x => refsV (ev T x))) (hfree : ∀ j, j < 16 → H (ide + j) = none) (hr : ¬ (ide ≤ idz ∧ idz < ide + 16)) (hok : ∀ i, ok1 i → ok i)
  (h : opK0 P k ide ok1 K T1 (addO H idz ob)) :
  opK0 P k ide ok (fun v H' => (∀ o, H o ≠ none → ¬ ok o → H' o = H o) ∧ K v (addO H' idz ob)) T H := by
 have hnr : ∀ {x : Opd} {c : EC}, x ∈ k.opds → asC (ev T x) = some c → idz ∉ refsC c := by
  intro x c hx hc hm
  exact hnew (reach_sub _ (refs_mem hx hc _ hm))
 have hide : H ide = none := by have := hfree 0 (by omega); simpa using this
 have hne : ide ≠ idz := by intro e; exact hr ⟨by omega, by omega⟩
 cases k with
 | q qq =>
  simp only [opK0] at h ⊢
  have h1 : evQ qq T1 (addO H idz ob) ide = evQ qq T (addO H idz ob) ide := evQ_T hT
  have hlook : ∀ o ∈ qq.looks T, addO H idz ob o = H o := by
   intro o ho
   refine addO_ne ?_
   rintro rfl
   refine hnew (reach_sub _ ?_)
   have key : ∀ {x : Opd} {c : EC}, x ∈ qq.opds → asC (ev T x) = some c → o ∈ refsC c → o ∈ (EK.q qq).opds.flatMap fun x => refsV (ev T x) := fun hx hc hm => refs_mem hx hc _ hm
   cases qq <;> simp only [QOp.looks] at ho <;> try (simp at ho; done)
   ·split at ho <;> first | (rename_i hx; exact key (by simp [QOp.opds]) hx (by simpa [refsC] using ho)) | simp at ho
   ·split at ho <;> first | (rename_i hx; exact key (by simp [QOp.opds]) hx (by simpa [refsC] using ho)) | simp at ho
   ·split at ho <;> first | (rename_i hx; exact key (by simp [QOp.opds]) hx (by simpa [refsC] using ho)) | simp at ho
   ·split at ho <;> first | (rename_i hx; exact key (by simp [QOp.opds]) hx (by simpa [refsC] using ho)) | simp at ho
   ·split at ho <;> first | (rename_i hx; exact key (by simp [QOp.opds]) hx (by simpa [refsC] using ho)) | simp at ho
   ·split at ho <;> first | (rename_i hx; exact key (by simp [QOp.opds]) hx (by simpa [refsC] using ho)) | simp at ho
  rw [h1, evQ_H hlook] at h
  split at h
  ·rename_i v ob' hev
   refine ⟨?_, ?_⟩
   ·intro o ho _
    exact addO_ne (fun e => ho (by rw [e, hide]))
   ·rw [← addO_addO hne]; exact h
  ·exact h
 | sto n p x =>
  simp only [opK0] at h ⊢
  have e1 : ev T1 p = ev T p := hT p (by simp [EK.opds])
  have e2 : ev T1 x = ev T x := hT x (by simp [EK.opds])
  rw [e1, e2] at h
  split at h
  ·rename_i pc cs hp hx
   rw [stoAt_add (hnr (by simp [EK.opds]) hp)] at h
   split at h
   ·rename_i i ob' hs
    have hi := stoAt_ref hs
    have hiz : i ≠ idz := by rintro rfl; exact hnr (by simp [EK.opds]) hp hi
    refine ⟨h.1, hok _ h.2.1, ?_, ?_⟩
    ·intro o _ hno
     exact upd_ne _ _ _ (fun e => hno (by rw [e]; exact hok _ h.2.1))
    ·rw [← addO_upd hiz]; exact h.2.2
   ·exact h
  ·exact h
 | app ty es bytes s x =>
  simp only [opK0] at h ⊢
  have e1 : ev T1 s = ev T s := hT s (by simp [EK.opds])
  have e2 : ev T1 x = ev T x := hT x (by simp [EK.opds])
  rw [e1, e2] at h
  split at h
  ·rename_i sc xc hs hx
   rw [baseOf_add (hnr (by simp [EK.opds]) hs), elems2_add (hnr (by simp [EK.opds]) hx)] at h
   split at h
   ·rename_i old xs ys hb hy
    have hold : ∀ o, old = some o → o ≠ idz := by
     rintro o ho rfl
     exact hnr (by simp [EK.opds]) hs (baseOf_ref hb o ho).1
    refine ⟨h.1, fun o ho => hok _ (h.2.1 o ho), ?_, ?_⟩
    ·intro o hlive hno
     rw [upd_ne _ _ _ (fun e => hlive (by rw [e, hide]))]
     cases old with
     | none => rfl
     | some oo => exact upd_ne _ _ _ (fun e => hno (by rw [e]; exact hok _ (h.2.1 oo rfl)))
    ·rw [← addO_upd hne, ← addO_dropO (fun e => by cases old with | none => simp at e | some oo => exact hold oo rfl (Option.some.inj e))]
     exact h.2.2
   ·exact h
  ·exact h
 | cpy es d s =>
  simp only [opK0] at h ⊢
  have e1 : ev T1 d = ev T d := hT d (by simp [EK.opds])
  have e2 : ev T1 s = ev T s := hT s (by simp [EK.opds])
  rw [e1, e2] at h
  split at h
  ·rename_i dc xc hd hx
   rw [elems2_add (hnr (by simp [EK.opds]) hx)] at h
   split at h
   ·rename_i ys hy
    rw [cpyAt_add (hnr (by simp [EK.opds]) hd)] at h
    split at h
    ·rename_i i ob' n hs
     have hi := cpyAt_ref hs
     have hiz : i ≠ idz := by rintro rfl; exact hnr (by simp [EK.opds]) hd hi
     refine ⟨hok _ h.1, ?_, ?_⟩
     ·intro o _ hno
      exact upd_ne _ _ _ (fun e => hno (by rw [e]; exact hok _ h.1))
     ·rw [← addO_upd hiz]; exact h.2
    ·exact h
   ·exact h
  ·exact h
 | call f args =>
  simp only [opK0] at h ⊢
  have e1 : args.map (ev T1) = args.map (ev T) := List.map_congr_left hT
  rw [e1] at h
  have hfm : (args.map (ev T)).flatMap refsV = (EK.call f args).opds.flatMap fun x => refsV (ev T x) := by simp [EK.opds, List.flatMap_map]
  exact ECallAt.mono hok (fun _ _ h => ⟨fun o h1 h2 => h.1 o h1 (fun h3 => h2 (hok _ h3)), h.2⟩) (ECallAt_add (by rw [hfm]; exact hnew) hr hfree h)
 | clo x args =>
  simp only [opK0] at h ⊢
  have e0 : ev T1 x = ev T x := hT x (by simp [EK.opds])
  have e1 : args.map (ev T1) = args.map (ev T) := List.map_congr_left (fun y hy => hT y (by simp [EK.opds, hy]))
  rw [e0, e1] at h
  split at h
  ·rename_i f caps hx
   have hfm : ∀ o, o ∈ reach H ((args.map (ev T) ++ caps.map fun p => EV.v (.c (.ptr p.1 p.2))).flatMap refsV) → o ∈ reach H ((EK.clo x args).opds.flatMap fun x => refsV (ev T x)) := by
    have mono : ∀ {l l' : List Nat}, (∀ o ∈ l, o ∈ l') → ∀ o ∈ stepR H l, o ∈ stepR H l' := by
     intro l l' hl o ho
     unfold stepR at *
     rcases List.mem_append.1 ho with h | h
     ·exact List.mem_append_left _ (hl o h)
     ·obtain ⟨a, ha, hao⟩ := List.mem_flatMap.1 h
      exact List.mem_append_right _ (List.mem_flatMap.2 ⟨a, hl a ha, hao⟩)
    have base : ∀ o, o ∈ ((args.map (ev T) ++ caps.map fun p => EV.v (.c (.ptr p.1 p.2))).flatMap refsV) → o ∈ ((EK.clo x args).opds.flatMap fun x => refsV (ev T x)) := by
     intro o ho
     rw [List.flatMap_append] at ho
     simp only [EK.opds, List.flatMap_cons]
     rcases List.mem_append.1 ho with h | h
     ·refine List.mem_append_right _ ?_
      rw [List.flatMap_map] at h
      exact h
     ·refine List.mem_append_left _ ?_
      rw [← refs_asC hx]
      obtain ⟨a, ha, hao⟩ := List.mem_flatMap.1 h
      obtain ⟨p, hp, rfl⟩ := List.mem_map.1 ha
      simp [refsV, refsT, refsC] at hao
      subst hao
      simp only [refsC, List.mem_map]
      exact ⟨p, hp, rfl⟩
    exact mono (mono (mono base))
   exact ⟨h.1, ECallAt.mono hok (fun _ _ h => ⟨fun o h1 h2 => h.1 o h1 (fun h3 => h2 (hok _ h3)), h.2⟩) (ECallAt_add (fun e => hnew (hfm _ e)) hr hfree h.2)⟩
  ·exact h
 | nild neg x =>
  simp only [opK0] at h ⊢
  have e1 : ev T1 x = ev T x := hT x (by simp [EK.opds])
  rw [e1] at h
  split at h
  ·rename_i c hx
   have hnl : nilLen (addO H idz ob) c = nilLen H c := by
    cases c with
    | row o len =>
     have ho : o ≠ idz := by rintro rfl; exact hnr (by simp [EK.opds]) hx (by simp [refsC])
     simp only [nilLen, addO_ne ho]
    | _ => simp only [nilLen]
   rw [hnl] at h
   split at h
   ·exact ⟨fun e => ⟨by simp, h.1 e⟩, fun e => ⟨by simp, h.2 e⟩⟩
   ·exact h
  ·exact h
 | mrk x =>
  simp only [opK0] at h ⊢
  have e1 : ev T1 x = ev T x := hT x (by simp [EK.opds])
  rw [e1] at h
  split at h
  ·rename_i c hx
   have hnl : rowOf (addO H idz ob) c = rowOf H c := by
    cases c with
    | row o len =>
     have ho : o ≠ idz := by rintro rfl; exact hnr (by simp [EK.opds]) hx (by simp [refsC])
     simp only [rowOf, addO_ne ho]
    | _ => simp only [rowOf]
   rw [hnl] at h
   split at h
   ·rename_i o xs hro
    have hoz : o ≠ idz := by
     rintro rfl
     refine hnr (by simp [EK.opds]) hx ?_
     cases c with
     | row o' len =>
      simp only [rowOf] at hro
      split at hro
      ·split at hro
       ·simp only [Option.some.injEq, Prod.mk.injEq] at hro
        simp [refsC, hro.1]
       ·simp at hro
      ·simp at hro
     | _ => simp [rowOf] at hro
    refine ⟨hok _ h.1, ?_, ?_⟩
    ·intro o' _ hno
     exact upd_ne _ _ _ (fun e => hno (by rw [e]; exact hok _ h.1))
    ·have e2 : addO (upd H o none) idz ob = upd (addO H idz ob) o none := by
      cases ob with
      | none => rfl
      | some x0 =>
       funext j
       simp only [addO, upd]
       by_cases q1 : j = idz
       ·subst q1; simp [Ne.symm hoz]
       ·by_cases q2 : j = o
        ·subst q2; simp [q1]
        ·simp [q1, q2]
     rw [e2]; exact h.2
   ·exact h
  ·exact h
 | mp mk xs =>
  simp only [opK0] at h ⊢
  have hmp : ∀ x ∈ xs, (asC (ev T x)).bind (mpOf (addO H idz ob)) = (asC (ev T x)).bind (mpOf H) := by
   intro x hx
   cases hc : asC (ev T x) with
   | none => rfl
   | some c =>
    simp only [Option.bind_some]
    cases c with
    | mp o =>
     have ho : o ≠ idz := by rintro rfl; exact hnr (by simpa [EK.opds] using hx) hc (by simp [refsC])
     simp only [mpOf, addO_ne ho]
    | _ => rfl
  have hmo : ∀ {x : Opd} {r : Nat × List (Nat × IntKind) × List (List Int × Value)}, x ∈ xs → (asC (ev T x)).bind (mpOf H) = some r → r.1 ≠ idz := by
   intro x r hx hr'
   obtain ⟨c, hc, hm⟩ := bind_some' hr'
   cases c with
   | mp o =>
    simp only [mpOf] at hm
    split at hm
    ·obtain rfl := Option.some.inj hm
     rintro rfl
     exact hnr (by simpa [EK.opds] using hx) hc (by simp [refsC])
    ·simp at hm
   | _ => simp [mpOf] at hm
  have e1 : ∀ x ∈ xs, ev T1 x = ev T x := fun x hx => hT x (by simpa [EK.opds] using hx)
  unfold opM at h ⊢
  split at h
  ·refine ⟨?_, ?_⟩
   ·intro o hlive _
    exact upd_ne _ _ _ (fun e => hlive (by rw [e, hide]))
   ·rw [← addO_upd hne]; exact h
  ·rename_i x
   rw [e1 x (by simp), hmp x (by simp)] at h
   split at h
   ·exact ⟨by simp, h⟩
   ·exact h
  ·rename_i rs zq x k
   rw [e1 x (by simp), e1 k (by simp), hmp x (by simp)] at h
   split at h
   ·rename_i r ks hr' hks
    refine ⟨hok _ h.1, h.2.1, ?_, ?_⟩
    ·intro o _ hno
     exact upd_ne _ _ _ (fun e => hno (by rw [e]; exact hok _ h.1))
    ·rw [← addO_upd (hmo (by simp) hr')]; exact h.2.2
   ·exact h
  ·rename_i x k v
   rw [e1 x (by simp), e1 k (by simp), e1 v (by simp), hmp x (by simp)] at h
   split at h
   ·rename_i r n u hr' hn hu
    refine ⟨hok _ h.1, h.2.1, ?_, ?_⟩
    ·intro o _ hno
     exact upd_ne _ _ _ (fun e => hno (by rw [e]; exact hok _ h.1))
    ·rw [← addO_upd (hmo (by simp) hr')]; exact h.2.2
   ·exact h
  ·exact h
 | fz k => exact h.elim
 | bad => exact h.elim
theorem fzMV_cst (H : Nat → Option EO) (d : List Nat) (v : Value) : fzMV H d (cst v) = cst v := by
 unfold cst
 split
 ·split
  ·simp [fzMV, fzMT, litc, fzM]
  ·rfl
 ·rfl
 ·split <;> rfl
 ·rfl
theorem ev_fz (H : Nat → Option EO) (d : List Nat) (T : List EV) (x : Opd) : ev (T.map (fzMV H d)) x = fzMV H d (ev T x) := by
 cases x with
 | k v => exact (fzMV_cst H d v).symm
 | t i =>
  simp only [ev, nth_eq, List.getElem?_map]
  cases T[i]? <;> rfl
theorem fz_refs (H : Nat → Option EO) (d : List Nat) (e : EV) : ∀ o ∈ refsV (fzMV H d e), o ∈ refsV e := by
 have h1 : ∀ c, ∀ o ∈ refsC (fzM H d c), o ∈ refsC c := by
  intro c o ho
  cases c with
  | row o' len =>
   simp only [fzM] at ho
   split at ho
   ·split at ho
    ·simp [refsC] at ho
    ·exact ho
   ·exact ho
  | _ => exact ho
 have h2 : ∀ t, ∀ o ∈ refsT (fzMT H d t), o ∈ refsT t := by
  intro t o ho
  cases t with
  | c x => exact h1 x o ho
  | agg cs =>
   simp only [fzMT, refsT, List.flatMap_map, List.mem_flatMap] at ho ⊢
   obtain ⟨c, hc, hm⟩ := ho
   exact ⟨c, hc, h1 c o hm⟩
 intro o ho
 cases e with
 | v t => exact h2 t o ho
 | tup ts =>
  simp only [fzMV, refsV, List.flatMap_map, List.mem_flatMap] at ho ⊢
  obtain ⟨t, ht, hm⟩ := ho
  exact ⟨t, ht, h2 t o hm⟩
 | any => exact ho
theorem dead_refs {k : EK} {T : List EV} {H : Nat → Option EO} : ∀ o ∈ deadK k T H, o ∈ k.opds.flatMap fun x => refsV (ev T x) := by
 have rv : ∀ e, ∀ o ∈ rowsV e, o ∈ refsV e := by
  intro e o ho
  have h1 : ∀ c, ∀ o ∈ rowsE c, o ∈ refsC c := by
   intro c o ho
   cases c <;> simp [rowsE] at ho
   subst ho; simp [refsC]
  unfold rowsV at ho
  split at ho
  ·exact h1 _ o ho
  ·obtain ⟨c, hc, hm⟩ := List.mem_flatMap.1 ho
   exact List.mem_flatMap.2 ⟨c, hc, h1 c o hm⟩
  ·simp at ho
 intro o ho
 have ho := (List.mem_filter.1 ho).1
 obtain ⟨e, he, ho⟩ := List.mem_flatMap.1 ho
 unfold dataK at he
 split at he
 ·rename_i ps
  obtain ⟨p, hp, rfl⟩ := List.mem_map.1 he
  exact List.mem_flatMap.2 ⟨p.2, by simp only [EK.opds, QOp.opds]; exact List.mem_map.2 ⟨p, hp, rfl⟩, rv _ o ho⟩
 ·split at he
  ·obtain rfl := List.mem_singleton.1 he
   exact List.mem_flatMap.2 ⟨_, by simp only [EK.opds]; exact List.mem_cons_of_mem _ (List.mem_singleton.2 rfl), rv _ o ho⟩
  ·simp at he
 ·simp at he
theorem dead_add {k : EK} {T T1 : List EV} {H : Nat → Option EO} {id : Nat} {ob : Option EO} (hT : ∀ x ∈ k.opds, ev T1 x = ev T x) (hnew : id ∉ k.opds.flatMap fun x => refsV (ev T x)) : deadK k T1 (addO H id ob) = deadK k T H := by
 have hd : dataK k T1 = dataK k T := by
  cases k with
  | q qq =>
   cases qq with
   | bsl es z len ps =>
    simp only [dataK]
    exact List.map_congr_left fun p hp => hT p.2 (by simp only [EK.opds, QOp.opds]; exact List.mem_map.2 ⟨p, hp, rfl⟩)
   | _ => rfl
  | sto n p x => simp only [dataK, hT p (by simp [EK.opds]), hT x (by simp [EK.opds])]
  | _ => rfl
 have h0 : ∀ o ∈ (dataK k T).flatMap rowsV, o ≠ id := by
  rintro o ho rfl
  refine hnew ?_
  by_cases hr : isRow H o = true
  ·exact dead_refs o (List.mem_filter.2 ⟨ho, hr⟩)
  ·have := dead_refs (k := k) (T := T) (H := fun _ => some (.row 0 0 [])) o (List.mem_filter.2 ⟨ho, rfl⟩)
   exact this
 unfold deadK
 rw [hd]
 refine List.filter_congr fun o ho => ?_
 unfold isRow
 rw [addO_ne (h0 o ho)]
theorem opK_swap {P : Program} {k : EK} {ide idz : Nat} {ob : Option EO} {ok ok1 : Nat → Prop} {K : EV → (Nat → Option EO) → Prop} {T T1 : List EV} {H : Nat → Option EO}
  (hT : ∀ x ∈ k.opds, ev T1 x = ev T x) (hnew : idz ∉ reach H (k.opds.flatMap fun x => refsV (ev T x))) (hfree : ∀ j, j < 16 → H (ide + j) = none) (hr : ¬ (ide ≤ idz ∧ idz < ide + 16)) (hok : ∀ i, ok1 i → ok i)
  (h : opK P k ide ok1 K T1 (addO H idz ob)) :
  opK P k ide ok (fun v H' => (∀ o, H o ≠ none → ¬ ok o → H' o = H o) ∧ K v (addO H' idz ob)) T H := by
 cases k with
 | fz k =>
  have hn0 : idz ∉ k.opds.flatMap fun x => refsV (ev T x) := fun e => hnew (reach_sub _ e)
  have hdead := dead_add (k := k) (T := T) (T1 := T1) (H := H) (ob := ob) hT hn0
  obtain ⟨h1, h2⟩ := h
  rw [hdead] at h1 h2
  obtain ⟨d, hd⟩ : ∃ d, deadK k T H = d := ⟨_, rfl⟩
  rw [hd] at h1 h2 hdead
  have hidd : idz ∉ d := by
   intro e
   rw [← hd] at e
   exact hn0 (dead_refs _ e)
  have hH : rmv (addO H idz ob) d = addO (rmv H d) idz ob := by
   cases ob with
   | none => rfl
   | some x =>
    funext o
    simp only [rmv, addO, upd]
    split
    ·rename_i ho
     rw [if_neg (by rintro rfl; exact hidd ho)]
    ·rfl
  rw [hH] at h2
  have hfz : ∀ c, fzM (addO H idz ob) d c = fzM H d c := by
   intro c
   cases c with
   | row o len =>
    simp only [fzM]
    split
    ·rename_i ho
     rw [addO_ne (by rintro rfl; exact hidd ho)]
    ·rfl
   | _ => rfl
  have hfm : ∀ e, fzMV (addO H idz ob) d e = fzMV H d e := by
   have ht : ∀ t, fzMT (addO H idz ob) d t = fzMT H d t := by
    intro t
    cases t with
    | c x => simp only [fzMT, hfz]
    | agg cs => simp only [fzMT]; congr 1; exact List.map_congr_left fun c _ => hfz c
   intro e
   cases e with
   | v t => simp only [fzMV, ht]
   | tup ts => simp only [fzMV]; congr 1; exact List.map_congr_left fun t _ => ht t
   | any => rfl
  have hsub : ∀ {l l' : List Nat}, (∀ o ∈ l, o ∈ l') → ∀ o ∈ stepR (rmv H d) l, o ∈ stepR H l' := by
   intro l l' hl o ho
   unfold stepR at *
   rcases List.mem_append.1 ho with h | h
   ·exact List.mem_append_left _ (hl o h)
   ·obtain ⟨a, ha, hao⟩ := List.mem_flatMap.1 h
    refine List.mem_append_right _ (List.mem_flatMap.2 ⟨a, hl a ha, ?_⟩)
    unfold refsAt rmv at hao
    unfold refsAt
    by_cases e : a ∈ d
    ·simp [e] at hao
    ·simpa [e] using hao
  show (∀ o ∈ deadK k T H, ok o) ∧ opK0 P k ide ok _ (T.map (fzMV H (deadK k T H))) (rmv H (deadK k T H))
  rw [hd]
  refine ⟨fun o ho => hok o (h1 o ho), ?_⟩
  have := opK0_swap (k := k) (ide := ide) (idz := idz) (ob := ob) (ok := ok) (ok1 := ok1) (K := K) (T := T.map (fzMV H d)) (T1 := T1.map (fzMV (addO H idz ob) d)) (H := rmv H d)
   (fun x hx => by rw [ev_fz, ev_fz, hT x hx, hfm])
   (fun e => hnew (hsub (hsub (hsub (fun o ho => by
    obtain ⟨x, hx, hm⟩ := List.mem_flatMap.1 ho
    rw [ev_fz] at hm
    exact List.mem_flatMap.2 ⟨x, hx, fz_refs _ _ _ o hm⟩))) _ e))
   (fun j hj => by unfold rmv; split <;> first | rfl | exact hfree j hj) hr hok h2
  refine opK0.mono (fun i h => h) ?_ this
  rintro v H' ⟨q1, q2⟩
  refine ⟨fun o ho hno => ?_, q2⟩
  have hod : o ∉ d := fun e => hno (hok o (h1 o e))
  have hro : rmv H d o = H o := if_neg hod
  rw [q1 o (by rw [hro]; exact ho) hno, hro]
 | _ => simp only [opK] at h ⊢; exact opK0_swap hT hnew hfree hr hok h
def quietAt (e : EOp) (n : Nat) (T : List EV) (H : Nat → Option EO) (v : EV) (ob : Option EO) : Prop :=
 (gdOK e.gd T = some false ∧ v = .tup [] ∧ ob = none) ∨ (gdOK e.gd T = some true ∧ ∃ qq, e.k = .q qq ∧ evQ qq T H (n + 16 * e.i) = some (v, ob))
theorem quiet_opT {P : Program} {n : Nat} {e : EOp} {lg : List (Nat × List Nat)} {K : List EV → (Nat → Option EO) → Prop} {T : List EV} {H : Nat → Option EO} (hq : e.k.quiet = true) :
  opT P n e lg K T H ↔ ∃ v ob, quietAt e n T H v ob ∧ K (setD T e.dst v) (addO H (n + 16 * e.i) ob) := by
 obtain ⟨qq, hqq⟩ : ∃ qq, e.k = .q qq := by
  cases hk : e.k with
  | q qq => exact ⟨qq, rfl⟩
  | _ => rw [hk] at hq; simp [EK.quiet] at hq
 unfold opT quietAt
 constructor
 ·intro h
  split at h
  ·exact h.elim
  ·rename_i hg; exact ⟨_, none, .inl ⟨hg, rfl, rfl⟩, h⟩
  ·rename_i hg
   rw [hqq] at h
   simp only [opK, opK0] at h
   split at h
   ·rename_i v ob hev; exact ⟨v, ob, .inr ⟨hg, qq, hqq, hev⟩, h⟩
   ·exact h.elim
 ·rintro ⟨v, ob, ⟨hg, rfl, rfl⟩ | ⟨hg, q', hq', hev⟩, hK⟩
  ·rw [hg]; exact hK
  ·rw [hg, hq']
   simp only [opK, opK0, hev]
   exact hK
theorem opK_quiet {P : Program} {k : EK} {id : Nat} {ok ok' : Nat → Prop} {K : EV → (Nat → Option EO) → Prop} {T : List EV} {H : Nat → Option EO} (hq : k.quiet = true) (h : opK P k id ok K T H) : opK P k id ok' K T H := by
 cases k with
 | q qq => exact h
 | _ => simp [EK.quiet] at hq
theorem opT_swap {P : Program} {n : Nat} {z e : EOp} {lg : List (Nat × List Nat)} {K : List EV → (Nat → Option EO) → Prop} {T : List EV} {H : Nat → Option EO}
  (hz : z.k.quiet = true) (hne : z.i ≠ e.i) (hu : unrel z e = true) (huz : e.k.quiet = true ∨ z.i ∈ e.uz)
  (hnew : (n + 16 * z.i) ∉ reach H (e.refs T)) (hfree : ∀ k, k < 16 → H (n + 16 * e.i + k) = none)
  (h : opT P n z lg (fun T1 H1 => opT P n e ((z.i, z.k.looks T) :: lg) K T1 H1) T H) :
  opT P n e lg (fun T' H' => z.k.looks T' = z.k.looks T ∧ opT P n z lg K T' H') T H := by
 obtain ⟨hu1, hu2, hu3⟩ := unrel_spec hu
 obtain ⟨v, ob, hqz, hK⟩ := (quiet_opT hz).1 h
 have hT : ∀ x ∈ e.k.opds, ev (setD T z.dst v) x = ev T x := evs_setD (tmps_k hu1)
 have hlive : ∀ o ∈ z.k.looks T, (gdOK z.gd T = some true) → H o ≠ none := by
  intro o ho hg
  rcases hqz with ⟨hg', _⟩ | ⟨_, qq, hqq, hev⟩
  ·rw [hg] at hg'; simp at hg'
  ·rw [hqq] at ho
   exact evQ_live hev o ho
 -- what z does behind e
 have back : ∀ (u : EV) (H' : Nat → Option EO), (∀ o ∈ z.k.looks T, gdOK z.gd T = some true → H' o = H o) → K (setD (setD T z.dst v) e.dst u) (addO H' (n + 16 * z.i) ob) →
   z.k.looks (setD T e.dst u) = z.k.looks T ∧ opT P n z lg K (setD T e.dst u) H' := by
  intro u H' hH' hK'
  refine ⟨looks_setD hu3, (quiet_opT hz).2 ⟨v, ob, ?_, ?_⟩⟩
  ·rcases hqz with ⟨hg, h1, h2⟩ | ⟨hg, qq, hqq, hev⟩
   ·exact .inl ⟨by rw [gd_setD hu3]; exact hg, h1, h2⟩
   ·refine .inr ⟨by rw [gd_setD hu3]; exact hg, qq, hqq, ?_⟩
    have h1 : evQ qq (setD T e.dst u) H' (n + 16 * z.i) = evQ qq T H' (n + 16 * z.i) := by
     refine evQ_T ?_
     have := evs_setD (T := T) (v := u) (tmps_k hu3)
     rw [hqq] at this
     exact this
    rw [h1, evQ_H (H' := H), hev]
    intro o ho
    exact hH' o (by rw [hqq]; exact ho) hg
  ·rw [← setD_comm hu2]; exact hK'
 unfold opT at hK ⊢
 rw [gd_setD hu1] at hK
 split at hK
 ·exact hK.elim
 ·exact back _ H (fun _ _ _ => rfl) hK
 ·by_cases hq : e.k.quiet = true
  ·have hK1 := opK_quiet (ok' := fun _ => False) hq hK
   have hsw := opK_swap (P := P) (k := e.k) (ide := n + 16 * e.i) (idz := n + 16 * z.i) (ob := ob) (ok := fun _ => False) (T := T) (H := H) hT hnew hfree (by omega) (fun i hi => hi) hK1
   refine opK.mono (fun i hi => hi.elim) ?_ hsw
   rintro u H' ⟨hkeep, hK'⟩
   exact back u H' (fun o ho hg => hkeep o (hlive o ho hg) (fun h => h)) hK'
  ·have hzu : z.i ∈ e.uz := huz.resolve_left hq
   have hsw := opK_swap (P := P) (k := e.k) (ide := n + 16 * e.i) (idz := n + 16 * z.i) (ob := ob) (ok := fun i => Wok lg e.uz i ∧ i ∉ z.k.looks T) (T := T) (H := H) hT hnew hfree (by omega)
    (fun i hi => ⟨fun p hp => hi p (List.mem_cons_of_mem _ hp), hi (z.i, z.k.looks T) (List.mem_cons_self ..) hzu⟩) hK
   refine opK.mono (fun i hi => hi.1) ?_ hsw
   rintro u H' ⟨hkeep, hK'⟩
   exact back u H' (fun o ho hg => hkeep o (hlive o ho hg) (fun hc => hc.2 ho)) hK'
def entPass (z e : EOp) : Bool := match z.gd, e.gd, z.k, e.k with
 | none, none, .q (.mget _ z1 _ _), .mp (.ent _ z2) _ => decide (z1 = z2)
 | _, _, _, _ => false
theorem getM_ent {z : Value} {k k' : List Int} : ∀ {l : List (List Int × Value)}, getM z k (entM z k' l) = getM z k l
 | [] => by
  by_cases h : k' = k <;> simp [entM, getM, h]
 | p :: r => by
  by_cases h : p.1 = k'
  ·simp only [entM, if_pos h]
  ·by_cases h2 : p.1 = k
   ·simp only [entM, if_neg h, getM, if_pos h2]
   ·simp only [entM, if_neg h, getM, if_neg h2]
    exact getM_ent
theorem opT_ent {P : Program} {n : Nat} {z e : EOp} {lg : List (Nat × List Nat)} {K : List EV → (Nat → Option EO) → Prop} {T : List EV} {H : Nat → Option EO}
  (hep : entPass z e = true) (hu : unrel z e = true) (huz : z.i ∉ e.uz)
  (h : opT P n z lg (fun T1 H1 => opT P n e ((z.i, z.k.looks T) :: lg) K T1 H1) T H) :
  opT P n e lg (fun T' H' => z.k.looks T' = z.k.looks T ∧ opT P n z lg K T' H') T H := by
 obtain ⟨hu1, hu2, hu3⟩ := unrel_spec hu
 obtain ⟨zi, zd, zg, zk, zuz⟩ := z
 obtain ⟨ei, ed, eg, ek, euz⟩ := e
 unfold entPass at hep
 dsimp only at hep hu1 hu2 hu3 huz h ⊢
 split at hep
 ·rename_i rs1 z1 x1 k1 rs2 z2 xs
  have hz12 : z1 = z2 := of_decide_eq_true hep
  subst hz12
  simp only [opT, gdOK, opK, opK0] at h ⊢
  split at h
  ·rename_i v ob hev
   have hT : ∀ x ∈ xs, ev (setD T zd v) x = ev T x := evs_setD (l := xs) (tmps_k (e := ⟨ei, ed, none, .mp (.ent rs2 z1) xs, euz⟩) hu1)
   unfold opM at h ⊢
   simp only [evQ] at hev
   replace hev := bind_some' hev; obtain ⟨c, h1, hev⟩ := hev
   replace hev := bind_some' hev; obtain ⟨q, h2, hev⟩ := hev
   replace hev := bind_some' hev; obtain ⟨cs, h3, hev⟩ := hev
   replace hev := bind_some' hev; obtain ⟨ns, h4, hev⟩ := hev
   split at hev
   ·rename_i hr
    simp only [Option.some.injEq, Prod.mk.injEq] at hev
    obtain ⟨rfl, rfl⟩ := hev
    simp only [addO] at h
    split at h
    ·simp at *
    ·simp at *
    ·rename_i rs2' z1' x k he
     simp only [MOp.ent.injEq] at he
     obtain ⟨rfl, rfl⟩ := he
     rw [hT x (by simp), hT k (by simp)] at h
     simp only
     split at h
     ·rename_i r ms hr' hms
      obtain ⟨g1, g2, g3⟩ := h
      refine ⟨?_, g2, looks_setD (e := ⟨zi, zd, none, .q (.mget rs1 z1 x1 k1), zuz⟩) hu3, ?_⟩
      ·intro p hp hpu
       exact g1 p (List.mem_cons_of_mem _ hp) hpu
      ·have hT2 := evs_setD (T := T) (v := EV.tup [.c (.fz (.lit (getM (.int z1 0) ms r.2.2))), .c (.fz (.lit (.int .i64 (idxM ms r.2.2 : Int))))]) (l := [x1, k1]) (tmps_k (e := ⟨zi, zd, none, .q (.mget rs1 z1 x1 k1), zuz⟩) hu3)
       have ex : ev (setD T ed (EV.tup [.c (.fz (.lit (getM (.int z1 0) ms r.2.2))), .c (.fz (.lit (.int .i64 (idxM ms r.2.2 : Int))))])) x1 = ev T x1 := hT2 x1 (by simp)
       have ek : ev (setD T ed (EV.tup [.c (.fz (.lit (getM (.int z1 0) ms r.2.2))), .c (.fz (.lit (.int .i64 (idxM ms r.2.2 : Int))))])) k1 = ev T k1 := hT2 k1 (by simp)
       simp only [evQ, ex, ek, h1, h3, Option.bind_some, h4]
       have hmp : mpOf (upd H r.1 (some (.mp rs2 (entM (.int z1 0) ms r.2.2)))) c = some (q.1, q.2.1, if q.1 = r.1 then entM (.int z1 0) ms r.2.2 else q.2.2) ∧ (q.1 = r.1 → q.2.2 = r.2.2) := by
        cases c with
        | mp o =>
         simp only [mpOf] at h2 ⊢
         split at h2
         ·rename_i rs' es' hH
          obtain rfl := Option.some.inj h2
          obtain ⟨c', hc', hm'⟩ := bind_some' hr'
          cases c' with
          | mp o' =>
           simp only [mpOf] at hm'
           split at hm'
           ·rename_i rs'' es'' hH'
            obtain rfl := Option.some.inj hm'
            dsimp only at g2 ⊢
            by_cases hoo : o = o'
            ·subst hoo
             rw [hH] at hH'
             simp only [Option.some.injEq, EO.mp.injEq] at hH'
             obtain ⟨rfl, rfl⟩ := hH'
             subst g2
             simp [upd_same]
            ·rw [upd_ne _ _ _ hoo, hH]
             simp [hoo]
           ·simp at hm'
          | _ => simp [mpOf] at hm'
         ·simp at h2
        | _ => simp [mpOf] at h2
       obtain ⟨m1, m2⟩ := hmp
       simp only [m1, Option.bind_some, if_pos hr]
       have hgm : getM (.int z1 0) ns (if q.1 = r.1 then entM (.int z1 0) ms r.2.2 else q.2.2) = getM (.int z1 0) ns q.2.2 := by
        split
        ·rename_i e; rw [getM_ent, m2 e]
        ·rfl
       rw [hgm]
       rw [← setD_comm hu2]
       exact g3
     ·exact h.elim
    ·simp at *
    ·exact h.elim
   ·simp at hev
  ·exact h.elim
 ·simp at hep
def Pass (l : List EOp) (e : EOp) : Prop := ∀ z ∈ l, z.k.quiet = true ∧ z.i ≠ e.i ∧ unrel z e = true ∧ ((e.k.quiet = true ∨ z.i ∈ e.uz) ∨ (entPass z e = true ∧ z.i ∉ e.uz))
theorem chain_lg {P : Program} {n : Nat} {K : List EV → (Nat → Option EO) → Prop} {l : List EOp} {lg lg' : List (Nat × List Nat)} {T : List EV} {H : Nat → Option EO} (hl : ∀ p ∈ lg', p ∈ lg) (h : chain P n l lg K T H) : chain P n l lg' K T H :=
 chain.mono (fun _ _ h => h) hl h
theorem front {P : Program} {n : Nat} {e : EOp} {K : List EV → (Nat → Option EO) → Prop} {l2 : List EOp} : ∀ {l1 : List EOp} {lg : List (Nat × List Nat)} {T : List EV} {H : Nat → Option EO}, Pass l1 e →
  (∀ z ∈ l1, (n + 16 * z.i) ∉ reach H (e.refs T)) → (∀ k, k < 16 → H (n + 16 * e.i + k) = none) → chain P n (l1 ++ e :: l2) lg K T H →
  opT P n e lg (fun T' H' => chain P n (l1 ++ l2) ((e.i, e.k.looks T) :: lg) K T' H') T H
 | [], lg, T, H, _, _, _, h => h
 | z :: r, lg, T, H, hp, hnew, hfree, h => by
  obtain ⟨hz, hne, hu, huz⟩ := hp z (List.mem_cons_self ..)
  obtain ⟨hu1, hu2, hu3⟩ := unrel_spec hu
  have hzn := hnew z (List.mem_cons_self ..)
  simp only [List.cons_append, chain] at h
  -- the rest, with e at its front
  have h1 : opT P n z lg (fun T1 H1 => opT P n e ((z.i, z.k.looks T) :: lg) (fun T' H' => chain P n (r ++ l2) ((z.i, z.k.looks T) :: (e.i, e.k.looks T) :: lg) K T' H') T1 H1) T H := by
   refine (quiet_opT hz).2 ?_
   obtain ⟨v, ob, hqz, hK⟩ := (quiet_opT hz).1 h
   refine ⟨v, ob, hqz, ?_⟩
   have hrefs : e.refs (setD T z.dst v) = e.refs T := by
    unfold EOp.refs
    have := evs_setD (T := T) (v := v) (tmps_k hu1)
    clear hnew hzn hfree hp
    generalize e.k.opds = l at this
    induction l with
    | nil => rfl
    | cons a t ih =>
     simp only [List.flatMap_cons]
     rw [this a (by simp), ih (fun x hx => this x (by simp [hx]))]
   have hreach : reach (addO H (n + 16 * z.i) ob) (e.refs (setD T z.dst v)) = reach H (e.refs T) := by rw [hrefs]; exact reach_add hzn
   have hfr : ∀ k, k < 16 → addO H (n + 16 * z.i) ob (n + 16 * e.i + k) = none := by
    intro k hk
    rw [addO_ne (by omega)]
    exact hfree k hk
   have ih := front (l2 := l2) (l1 := r) (fun y hy => hp y (List.mem_cons_of_mem _ hy)) (fun y hy => by rw [hreach]; exact hnew y (List.mem_cons_of_mem _ hy)) hfr hK
   rw [looks_setD hu1] at ih
   refine opT.mono (fun p hp => hp) ?_ ih
   intro T' H' hc
   refine chain_lg ?_ hc
   intro p hp
   rcases List.mem_cons.1 hp with rfl | hp
   ·exact List.mem_cons_of_mem _ (List.mem_cons_self ..)
   ·rcases List.mem_cons.1 hp with rfl | hp
    ·exact List.mem_cons_self ..
    ·exact List.mem_cons_of_mem _ (List.mem_cons_of_mem _ hp)
  have h2 := huz.elim (fun huz => opT_swap hz hne hu huz hzn hfree h1) (fun huz => opT_ent huz.1 hu huz.2 h1)
  refine opT.mono (fun p hp => hp) ?_ h2
  rintro T' H' ⟨hl, hc⟩
  simp only [List.cons_append, chain]
  rw [hl]
  -- a quiet operation does not look at the log
  obtain ⟨v, ob, hq, hK⟩ := (quiet_opT hz).1 hc
  exact (quiet_opT hz).2 ⟨v, ob, hq, hK⟩
end Go.EW
namespace Go.EW
open Go
def cok1 (P : Program) (o : Oper) : Option EK :=
 match o.op with
 | .store t p x => (sz P t).map fun n => .sto n (opd p) (opd x)
 | .call { callee := .builtin .append, args := args, argTypes := ts } => match args.toList, ts.toList with
  | [s, x], [t, t'] => if t = t' then match P.underlying t with
   | some (.slice e) => (P.info? e).bind fun i => (zer P e).bind fun z => if z.length = i.size ∧ 0 < i.size then some (.app e i.size i.bytes (opd s) (opd x)) else none
   | _ => none
   else none
  | _, _ => none
 | .call { callee := .builtin .copy, args := args, argTypes := ts } => match args.toList, ts.toList.head? with
  | [d, s], some t => match P.underlying t with
   | some (.slice e) => (sz P e).map fun es => .cpy es (opd d) (opd s)
   | _ => none
  | _, _ => none
 | .call { callee := .value (.func f), args := args, argTypes := _ } => if bodyOK P f = true then some (.call f (args.toList.map opd)) else none
 | .call { callee := .value (.tmp t), args := args, argTypes := _ } => some (.clo (.t t) (args.toList.map opd))
 | _ => (cop P o).map .q
def cnil (P : Program) (o : Oper) : Option EK :=
 match o.op with
 | .binOp op t x (.const (.slice none 0 0)) _ => match P.underlying t with
  | some (.slice _) => match op with
   | .eql => some (.nild false (opd x))
   | .neq => some (.nild true (opd x))
   | _ => none
  | _ => none
 | .convert s d x => if s = d then match P.underlying d with
  | some (.slice e) => match P.underlying e with
   | some (.int .u8) => some (.mrk (opd x))
   | _ => none
  | _ => none
  else none
 | _ => none
def cmap (P : Program) (o : Oper) : Option EK :=
 match o.op with
 | .makeMap t none => match P.underlying t with
  | some (.map kt _) => (keyRs P kt).map fun rs => .mp (.new rs) []
  | _ => none
 | .call { callee := .builtin .len, args := args, argTypes := ts } => match args.toList, ts.toList with
  | [x], [t] => match P.underlying t with
   | some (.map _ _) => some (.mp .len [opd x])
   | _ => none
  | _, _ => none
 | .mapEntry t x k => match P.underlying t with
  | some (.map kt et) => (keyRs P kt).bind fun rs => (zeroInt P et).map fun q => .mp (.ent rs q) [opd x, opd k]
  | _ => none
 | .entryStore _ x s v => some (.mp .sto [opd x, opd s, opd v])
 | _ => none
def cok0 (P : Program) (o : Oper) : Option EK :=
 match cnil P o with
 | some k => some k
 | none => cok1 P o
def cok (P : Program) (o : Oper) : Option EK :=
 match cmap P o with
 | some k => some k
 | none => cok0 P o
theorem cmap_mp {P : Program} {o : Oper} {k : EK} (h : cmap P o = some k) : ∃ mk xs, k = .mp mk xs := by
 unfold cmap at h
 repeat' split at h
 all_goals first
  | (obtain rfl := Option.some.inj h; exact ⟨_, _, rfl⟩)
  | (obtain ⟨_, _, rfl⟩ := map_some' h; exact ⟨_, _, rfl⟩)
  | (obtain ⟨_, _, h⟩ := bind_some' h; obtain ⟨_, _, rfl⟩ := map_some' h; exact ⟨_, _, rfl⟩)
  | simp at h
theorem cok_00 {P : Program} {o : Oper} {k : EK} (h : cok P o = some k) (hk : ∀ mk xs, k ≠ .mp mk xs) : cok0 P o = some k := by
 unfold cok at h
 split at h
 ·rename_i k' hm
  obtain rfl := Option.some.inj h
  obtain ⟨mk, xs, e⟩ := cmap_mp hm
  exact absurd e (hk mk xs)
 ·exact h
theorem cok_1 {P : Program} {o : Oper} {k : EK} (h : cok P o = some k) (hk : ∀ neg x, k ≠ .nild neg x) (hk2 : ∀ x, k ≠ .mrk x) (hk3 : ∀ mk xs, k ≠ .mp mk xs) : cok1 P o = some k := by
 replace h := cok_00 h hk3
 unfold cok0 at h
 split at h
 ·rename_i k' hn
  obtain rfl := Option.some.inj h
  unfold cnil at hn
  split at hn
  ·split at hn
   ·split at hn <;> simp at hn <;> exact absurd hn.symm (hk _ _)
   ·simp at hn
  ·split at hn
   ·split at hn
    ·split at hn <;> simp at hn <;> exact absurd hn.symm (hk2 _)
    ·simp at hn
   ·simp at hn
  ·simp at hn
 ·exact h
theorem cok1_nild {P : Program} {o : Oper} {neg : Bool} {x : Opd} : cok1 P o ≠ some (.nild neg x) := by
 intro h
 unfold cok1 at h
 split at h
 ·simp at h
 ·split at h
  ·split at h
   ·split at h
    ·replace h := Option.bind_eq_some_iff.1 h; obtain ⟨i, _, h⟩ := h
     replace h := Option.bind_eq_some_iff.1 h; obtain ⟨z, _, h⟩ := h
     split at h <;> simp at h
    ·simp at h
   ·simp at h
  ·simp at h
 ·split at h
  ·split at h
   ·simp at h
   ·simp at h
  ·simp at h
 ·split at h <;> simp at h
 ·simp at h
 ·replace h := Option.map_eq_some_iff.1 h; obtain ⟨q', _, h2⟩ := h
  simp at h2
theorem cok1_mrk {P : Program} {o : Oper} {x : Opd} : cok1 P o ≠ some (.mrk x) := by
 intro h
 unfold cok1 at h
 split at h
 ·simp at h
 ·split at h
  ·split at h
   ·split at h
    ·replace h := Option.bind_eq_some_iff.1 h; obtain ⟨i, _, h⟩ := h
     replace h := Option.bind_eq_some_iff.1 h; obtain ⟨z, _, h⟩ := h
     split at h <;> simp at h
    ·simp at h
   ·simp at h
  ·simp at h
 ·split at h
  ·split at h
   ·simp at h
   ·simp at h
  ·simp at h
 ·split at h <;> simp at h
 ·simp at h
 ·replace h := Option.map_eq_some_iff.1 h; obtain ⟨q', _, h2⟩ := h
  simp at h2
theorem cok_nild {P : Program} {o : Oper} {neg : Bool} {x : Opd} (h : cok P o = some (.nild neg x)) :
  ∃ op t e y t', o.op = .binOp op t y (.const (.slice none 0 0)) t' ∧ P.underlying t = some (.slice e) ∧ ((op = .eql ∧ neg = false) ∨ (op = .neq ∧ neg = true)) ∧ x = opd y := by
 replace h := cok_00 h (by simp)
 unfold cok0 at h
 split at h
 ·rename_i k' hn
  obtain rfl := Option.some.inj h
  unfold cnil at hn
  split at hn
  ·rename_i op t y t' ho
   split at hn
   ·rename_i e hu
    split at hn
    ·simp at hn; exact ⟨_, t, e, y, t', ho, hu, .inl ⟨rfl, hn.1⟩, hn.2.symm⟩
    ·simp at hn; exact ⟨_, t, e, y, t', ho, hu, .inr ⟨rfl, hn.1⟩, hn.2.symm⟩
    ·simp at hn
   ·simp at hn
  ·split at hn
   ·split at hn
    ·split at hn <;> simp at hn
    ·simp at hn
   ·simp at hn
  ·simp at hn
 ·exact absurd h cok1_nild
theorem cok_mrk {P : Program} {o : Oper} {x : Opd} (h : cok P o = some (.mrk x)) :
  ∃ t e y, o.op = .convert t t y ∧ P.underlying t = some (.slice e) ∧ P.underlying e = some (.int .u8) ∧ x = opd y := by
 replace h := cok_00 h (by simp)
 unfold cok0 at h
 split at h
 ·rename_i k' hn
  obtain rfl := Option.some.inj h
  unfold cnil at hn
  split at hn
  ·split at hn
   ·split at hn <;> simp at hn
   ·simp at hn
  ·rename_i s d y ho
   split at hn
   ·rename_i hsd
    subst hsd
    split at hn
    ·rename_i e hu
     split at hn
     ·rename_i he
      simp at hn
      exact ⟨_, e, y, ho, hu, he, hn.symm⟩
     ·simp at hn
    ·simp at hn
   ·simp at hn
  ·simp at hn
 ·exact absurd h cok1_mrk
def gdOf (ops : Array Oper) : Option (Nat × Bool) → Option (Option (Nat × Bool))
 | none => some none
 | some (j, want) => ((ops[j]?).bind (·.dst)).map fun t => some (t, want)
def hasSl (P : Program) (t : TypeId) : Bool := match zer P t with
 | some z => z.any fun v => match v with
  | .slice _ _ _ => true
  | _ => false
 | none => false
def rowLit (P : Program) (ops : Array Oper) (o : Oper) : Bool :=
 match o.op with
 | .buildSlice st len _ => len == 0 || (match P.underlying st with
  | some (.slice e) => (match P.underlying e with
   | some (.int .u32) => true
   | _ => false)
  | _ => false) || ops.any fun o' => match o'.op with
  | .convert a b (.tmp d) => a == b && o.dst == some d
  | .store _ _ (.tmp d) => o.dst == some d && (match P.underlying st with
   | some (.slice e) => hasSl P e
   | _ => false)
  | Op.call c => c.args.size == 3 && c.argTypes[0]? == some o'.type && c.argTypes[2]? == some o'.type && (match (c.args[2]? : Option Operand) with
   | some (Operand.tmp d) => o.dst == some d
   | _ => false)
  | _ => false
 | _ => false
def nest (P : Program) (o : Oper) : Bool :=
 match o.op with
 | .buildSlice t _ _ => match P.underlying t with
  | some (.slice e) => hasSl P e
  | _ => false
 | .store t _ _ => hasSl P t
 | _ => false
def cokA (P : Program) (nf : Bool) (ops : Array Oper) (o : Oper) : Option EK := if rowLit P ops o then (copR P o).map .q else (cok P o).map fun k => if nest P o && !nf then .fz k else k
def mkE (P : Program) (nf : Bool) (ops : Array Oper) (i : Nat) (uz : List Nat) : Option EOp :=
 (ops[i]?).bind fun o => (cokA P nf ops o).bind fun k => (gdOf ops o.guard).map fun g => { i := i, dst := o.dst, gd := g, k := k, uz := uz }
def Link (P : Program) (ops : Array Oper) (e : EOp) : Prop := ∃ o, ops[e.i]? = some o ∧ (cok P o = some e.k ∨ (∃ q, copR P o = some q ∧ e.k = .q q) ∨ ∃ k, cok P o = some k ∧ e.k = .fz k) ∧ o.dst = e.dst ∧ gdOf ops o.guard = some e.gd
theorem mkE_link {P : Program} {nf : Bool} {ops : Array Oper} {i : Nat} {uz : List Nat} {e : EOp} (h : mkE P nf ops i uz = some e) : Link P ops e ∧ e.i = i ∧ e.uz = uz := by
 unfold mkE at h
 replace h := bind_some' h; obtain ⟨o, ho, h⟩ := h
 replace h := bind_some' h; obtain ⟨k, hk, h⟩ := h
 replace h := map_some' h; obtain ⟨g, hg, rfl⟩ := h
 refine ⟨⟨o, ho, ?_, rfl, hg⟩, rfl, rfl⟩
 unfold cokA at hk
 split at hk
 ·replace hk := map_some' hk; obtain ⟨q, hq, rfl⟩ := hk
  exact .inr (.inl ⟨q, hq, rfl⟩)
 ·replace hk := map_some' hk; obtain ⟨k', hk', rfl⟩ := hk
  by_cases hn : (nest P o && !nf) = true
  ·rw [if_pos hn]; exact .inr (.inr ⟨k', hk', rfl⟩)
  ·rw [if_neg hn]; exact .inl hk'
def RR (w0 : World) (m : Nat) (ρ0 : Base) (Φ0 : Nat → Prop) (Us : Nat → Prop) (T : List EV) (H : Nat → Option EO) (a : Act) (w : World) : Prop :=
 ∃ X : Cx, X.w = w ∧ Rel w0 m ρ0 Φ0 H X ∧ All2 (VV X) T a.tmps.toList ∧ a.defers = [] ∧ ∀ o, X.U o → Us o
section
variable {P : Program} {w0 : World} {m : Nat} {ρ0 : Base} {Φ0 : Nat → Prop} {H : Nat → Option EO} {X : Cx} {T : List EV} {a : Act} {w : World} {ops : Array Oper} {Q : Exit → Act → World → Prop}
theorem put_all {X : Cx} {T : List EV} {a : Act} (h : All2 (VV X) T a.tmps.toList) (d : Option Nat) {v : EV} {u : Value} (hv : VV X v u) : All2 (VV X) (setD T d v) (a.put d u).tmps.toList := by
 cases d with
 | none => exact h
 | some d =>
  have : (a.put (some d) u).tmps.toList = a.tmps.toList.set d u := by simp [Act.put]
  rw [this]
  exact h.set d hv
theorem put_defers {a : Act} (d : Option Nat) (u : Value) : (a.put d u).defers = a.defers := by cases d <;> rfl
theorem nth_get {T : List EV} {t : Nat} {e : EV} (h : nth T t = e) (hne : e ≠ .any) : T[t]? = some e := by
 rw [nth_eq] at h
 cases ht : T[t]? with
 | none => rw [ht] at h; exact absurd h.symm hne
 | some x => rw [ht] at h; simp at h; rw [h]
theorem wanted_of (hall : All2 (VV X) T a.tmps.toList) {o : Oper} {gd : Option (Nat × Bool)} (hg : gdOf ops o.guard = some gd) {b : Bool} (h : gdOK gd T = some b) : Region.wanted o (yielded ops a.tmps) = b := by
 unfold gdOf at hg
 split at hg
 ·rename_i hgo
  obtain rfl := Option.some.inj hg
  simp only [gdOK, Option.some.injEq] at h
  subst h
  simp [Region.wanted, hgo]
 ·rename_i j want hgo
  replace hg := map_some' hg; obtain ⟨t, ht, rfl⟩ := hg
  simp only [gdOK] at h
  unfold Region.wanted
  rw [hgo]
  simp only
  unfold yielded
  rw [ht]
  simp only [Option.bind_some]
  split at h
  ·rename_i c hn
   have hT := nth_get hn (by simp)
   obtain ⟨u, hu, hv⟩ := hall.get hT
   cases hv
   have : a.tmps[t]? = some (.bool c) := by simpa using hu
   rw [this]
   simp only [Option.some.injEq] at h ⊢
   rw [← h]
   cases c <;> cases want <;> rfl
  ·rename_i hn
   have hT := nth_get hn (by simp)
   obtain ⟨u, hu, hv⟩ := hall.get hT
   obtain ⟨vs, hvs, hal⟩ := hv
   have : a.tmps[t]? = some u := by simpa using hu
   rw [this, hvs]
   simp only [Option.some.injEq] at h ⊢
   rw [← h]
   rfl
  ·simp at h
theorem run_callFunc {f : FuncId} (hf : bodyOK P f = true) (args : Array Value) (w : World) : (callFunc f args).run P w = .ok (.enter f args) w := by
 unfold bodyOK at hf
 split at hf
 ·rename_i fn hfn
  simp only [Bool.and_eq_true, bne_iff_ne, ne_eq] at hf
  have h2 : ¬ fn.body = none := by intro h; rw [h] at hf; simp at hf
  simp [callFunc, hfn, hf.2, h2]
 ·simp at hf
theorem toList_map_eval {args : Array Operand} {a : Act} : (args.map a.eval) = ((args.toList.map a.eval)).toArray := by cases args; simp
theorem args_all (hall : All2 (VV X) T a.tmps.toList) : ∀ (xs : List Operand), All2 (VV X) ((xs.map opd).map (ev T)) (xs.map a.eval)
 | [] => All2.nil
 | x :: r => All2.cons (VV_ev hall x) (args_all hall r)
theorem call_step {T0 : List EV} (hall0 : All2 (VV X) T0 a.tmps.toList) {f : FuncId} {args : List EV} {vals : List Value} {base : Nat} {ok : Nat → Prop} {Us : Nat → Prop} {o : Oper} {e : EOp}
  (hrun : (execOp a.eval o).run P X.w = .ok (.enter f vals.toArray) X.w) (hdst : o.dst = e.dst) (r : Rel w0 m ρ0 Φ0 H X) (_hall : All2 (VV X) T a.tmps.toList) (hd : a.defers = []) (hU : ∀ o, X.U o → Us o)
  (hv : All2 (VV X) args vals) (hfree : ∀ o, base ≤ o → o < base + 16 → ¬ Us o) (hm : m ≤ base) {K' : List EV → (Nat → Option EO) → Prop}
  (h : ECallAt P f args H base ok (fun v H' => K' (setD T0 e.dst v) H')) :
  o.wp P a X.w (fun a' w' => ∃ T' H', K' T' H' ∧ RR w0 m ρ0 Φ0 (fun o => Us o ∨ (base ≤ o ∧ o < base + 16)) T' H' a' w') Q := by
 obtain ⟨ids, args', Hc, post, h1, h2, h3, _, _, h6, h7⟩ := h
 have key := call_sound h6 h1 h2 h3 r hv (fun o q1 q2 hu => hfree o q1 q2 (hU o hu)) hm (fun y H' hp => (h7 y H' hp).1)
 unfold Oper.wp
 rw [hrun, Oper.upon_enter]
 refine key.mono ?_
 rintro e' w' ⟨y, H', v, X', rfl, hpo, rfl, hR, hL, hUU, hvv⟩
 refine ⟨_, _, (h7 y H' hpo).2, X', rfl, hR, ?_, by rw [put_defers]; exact hd, ?_⟩
 ·rw [hdst]
  exact put_all (hall0.mono fun _ _ => hL.vv) e.dst hvv
 ·intro o ho
  rcases (hUU o).1 ho with h | ⟨q1, q2⟩
  ·exact .inl (hU o h)
  ·have := (h7 y H' hpo).1.2
   exact .inr ⟨q1, by omega⟩
theorem cok_q {o : Oper} {q : QOp} (h : cok1 P o = some (.q q)) : cop P o = some q := by
 unfold cok1 at h
 split at h
 ·simp at h
 ·split at h
  ·split at h
   ·split at h
    ·replace h := bind_some' h; obtain ⟨i, _, h⟩ := h
     replace h := bind_some' h; obtain ⟨z, _, h⟩ := h
     split at h <;> simp at h
    ·simp at h
   ·simp at h
  ·simp at h
 ·split at h
  ·split at h
   ·simp at h
   ·simp at h
  ·simp at h
 ·split at h <;> simp at h
 ·simp at h
 ·replace h := map_some' h; obtain ⟨q', h1, h2⟩ := h
  simp only [EK.q.injEq] at h2
  rw [← h2]; exact h1
theorem cok_sto {o : Oper} {n : Nat} {p x : Opd} (h : cok1 P o = some (.sto n p x)) : ∃ t p' x', o.op = .store t p' x' ∧ sz P t = some n ∧ p = opd p' ∧ x = opd x' := by
 unfold cok1 at h
 split at h
 ·rename_i t p' x' ho
  replace h := map_some' h; obtain ⟨n', hn, h⟩ := h
  simp only [EK.sto.injEq] at h
  exact ⟨t, p', x', ho, by rw [← h.1]; exact hn, h.2.1.symm, h.2.2.symm⟩
 ·split at h
  ·split at h
   ·split at h
    ·replace h := bind_some' h; obtain ⟨i, _, h⟩ := h
     replace h := bind_some' h; obtain ⟨z, _, h⟩ := h
     split at h <;> simp at h
    ·simp at h
   ·simp at h
  ·simp at h
 ·split at h
  ·split at h
   ·simp at h
   ·simp at h
  ·simp at h
 ·split at h <;> simp at h
 ·simp at h
 ·replace h := map_some' h; obtain ⟨q', _, h2⟩ := h
  simp at h2
theorem cok_app {o : Oper} {ty es bytes : Nat} {s x : Opd} (h : cok1 P o = some (.app ty es bytes s x)) :
  ∃ args ts s' x' t i z, o.op = .call { callee := .builtin .append, args := args, argTypes := ts } ∧ args.toList = [s', x'] ∧ ts.toList = [t, t] ∧ P.underlying t = some (.slice ty) ∧ P.info? ty = some i ∧ zer P ty = some z ∧ z.length = i.size ∧ 0 < i.size ∧
   es = i.size ∧ bytes = i.bytes ∧ s = opd s' ∧ x = opd x' := by
 unfold cok1 at h
 split at h
 ·simp at h
 ·rename_i args ts ho
  split at h
  ·rename_i s' x' t t' ha ht
   split at h
   ·rename_i htt
    subst htt
    split at h
    ·rename_i e hu
     replace h := bind_some' h; obtain ⟨i, hi, h⟩ := h
     replace h := bind_some' h; obtain ⟨z, hz, h⟩ := h
     split at h
     ·rename_i hh
      simp only [Option.some.injEq, EK.app.injEq] at h
      obtain ⟨rfl, rfl, rfl, rfl, rfl⟩ := h
      exact ⟨args, ts, s', x', t, i, z, ho, ha, ht, hu, hi, hz, hh.1, hh.2, rfl, rfl, rfl, rfl⟩
     ·simp at h
    ·simp at h
   ·simp at h
  ·simp at h
 ·split at h
  ·split at h
   ·simp at h
   ·simp at h
  ·simp at h
 ·split at h <;> simp at h
 ·simp at h
 ·replace h := map_some' h; obtain ⟨q', _, h2⟩ := h
  simp at h2
theorem cok_cpy {o : Oper} {es : Nat} {d s : Opd} (h : cok1 P o = some (.cpy es d s)) :
  ∃ args ts d' s' t e, o.op = .call { callee := .builtin .copy, args := args, argTypes := ts } ∧ args.toList = [d', s'] ∧ ts.toList.head? = some t ∧ P.underlying t = some (.slice e) ∧ sz P e = some es ∧ d = opd d' ∧ s = opd s' := by
 unfold cok1 at h
 split at h
 ·simp at h
 ·split at h
  ·split at h
   ·split at h
    ·replace h := bind_some' h; obtain ⟨i, _, h⟩ := h
     replace h := bind_some' h; obtain ⟨z, _, h⟩ := h
     split at h <;> simp at h
    ·simp at h
   ·simp at h
  ·simp at h
 ·rename_i args ts ho
  split at h
  ·rename_i d' s' t ha ht
   split at h
   ·rename_i e hu
    replace h := map_some' h; obtain ⟨n, hn, h⟩ := h
    simp only [EK.cpy.injEq] at h
    obtain ⟨rfl, rfl, rfl⟩ := h
    exact ⟨args, ts, d', s', t, e, ho, ha, ht, hu, hn, rfl, rfl⟩
   ·simp at h
  ·simp at h
 ·split at h <;> simp at h
 ·simp at h
 ·replace h := map_some' h; obtain ⟨q', _, h2⟩ := h
  simp at h2
theorem cok_call {o : Oper} {f : FuncId} {args : List Opd} (h : cok1 P o = some (.call f args)) :
  ∃ as ts, o.op = .call { callee := .value (.func f), args := as, argTypes := ts } ∧ bodyOK P f = true ∧ args = as.toList.map opd := by
 unfold cok1 at h
 split at h
 ·simp at h
 ·split at h
  ·split at h
   ·split at h
    ·replace h := bind_some' h; obtain ⟨i, _, h⟩ := h
     replace h := bind_some' h; obtain ⟨z, _, h⟩ := h
     split at h <;> simp at h
    ·simp at h
   ·simp at h
  ·simp at h
 ·split at h
  ·split at h
   ·simp at h
   ·simp at h
  ·simp at h
 ·rename_i f' as ts ho
  split at h
  ·rename_i hb
   simp only [Option.some.injEq, EK.call.injEq] at h
   obtain ⟨rfl, rfl⟩ := h
   exact ⟨as, ts, ho, hb, rfl⟩
  ·simp at h
 ·simp at h
 ·replace h := map_some' h; obtain ⟨q', _, h2⟩ := h
  simp at h2
theorem cok_clo {o : Oper} {x : Opd} {args : List Opd} (h : cok1 P o = some (.clo x args)) :
  ∃ t as ts, o.op = .call { callee := .value (.tmp t), args := as, argTypes := ts } ∧ x = opd (.tmp t) ∧ args = as.toList.map opd := by
 unfold cok1 at h
 split at h
 ·simp at h
 ·split at h
  ·split at h
   ·split at h
    ·replace h := bind_some' h; obtain ⟨i, _, h⟩ := h
     replace h := bind_some' h; obtain ⟨z, _, h⟩ := h
     split at h <;> simp at h
    ·simp at h
   ·simp at h
  ·simp at h
 ·split at h
  ·split at h
   ·simp at h
   ·simp at h
  ·simp at h
 ·split at h <;> simp at h
 ·rename_i t as ts ho
  simp only [Option.some.injEq, EK.clo.injEq] at h
  obtain ⟨rfl, rfl⟩ := h
  exact ⟨t, as, ts, ho, rfl, rfl⟩
 ·replace h := map_some' h; obtain ⟨q', _, h2⟩ := h
  simp at h2
theorem nilLen_spec (r : Rel w0 m ρ0 Φ0 H X) {c : EC} {v : Value} (hv : VR X c v) {n : Nat} (h : nilLen H c = some n) : ∃ ad len cap, v = .slice ad len cap ∧ (ad = none → n = 0) ∧ (ad ≠ none → isNil c = false) := by
 cases c with
 | fz x =>
  cases x with
  | lit u =>
   have hv' : FR X.Φ X.w (.lit u) v := hv
   cases hv'
   simp only [nilLen, nilF] at h
   split at h
   ·rename_i heq; simp at heq
   ·rename_i heq
    simp only [FV.lit.injEq] at heq
    subst heq
    obtain rfl := Option.some.inj h
    exact ⟨none, 0, 0, rfl, fun _ => rfl, fun h => absurd rfl h⟩
   ·simp at h
  | sl es xs =>
   obtain rfl := Option.some.inj h
   have hv' : FR X.Φ X.w (.sl es xs) v := hv
   cases hv' with
   | sl es xs b off cap vs _ _ _ _ _ _ _ => exact ⟨_, _, cap, rfl, by simp, fun _ => rfl⟩
   | emp es ad cap => exact ⟨ad, 0, cap, rfl, fun _ => rfl, fun _ => rfl⟩
  | slc es xs => simp [nilLen, nilF] at h
 | row o len =>
  simp only [nilLen] at h
  split at h
  ·rename_i ty es xs ho
   obtain rfl := Option.some.inj h
   obtain ⟨_, ad, k, cap, hρ, h1, h2, rfl⟩ := hv
   refine ⟨ad, _, cap, rfl, ?_, fun _ => rfl⟩
   rintro rfl
   obtain ⟨_, _, _, flat, how, _⟩ := r.obj o _ ho
   rw [hρ] at how
   obtain ⟨_, ⟨e1, e2⟩ | ⟨g, cap', cur, e1, _⟩⟩ := how
   ·simp only [Value.slice.injEq] at e1
    omega
   ·simp at e1
  ·simp at h
 | _ => simp [nilLen] at h
theorem rowOf_spec {H : Nat → Option EO} {c : EC} {o : Nat} {xs : List (List FV)} (h : rowOf H c = some (o, xs)) : ∃ ty len, c = .row o len ∧ H o = some (.row ty 1 xs) ∧ len = xs.length ∧ xs ≠ [] := by
 cases c with
 | row o' len =>
  simp only [rowOf] at h
  split at h
  ·rename_i ty es xs' hH
   split at h
   ·rename_i hh
    obtain ⟨rfl, h1, h2⟩ := hh
    simp only [Option.some.injEq, Prod.mk.injEq] at h
    obtain ⟨rfl, rfl⟩ := h
    exact ⟨ty, len, rfl, hH, h1, by rintro rfl; simp at h1; omega⟩
   ·simp at h
  ·simp at h
 | _ => simp [rowOf] at h
theorem flat_take {es : Nat} : ∀ (xs : List (List FV)) (n : Nat), (∀ x ∈ xs, x.length = es) → n ≤ xs.length → (xs.take n).flatten = xs.flatten.take (n * es)
  | [], n, _, hn => by have : n = 0 := by simpa using hn
                       subst this; simp
  | x :: r, 0, _, _ => by simp
  | x :: r, n + 1, h, hn => by
    have hx := h x (by simp)
    have ih := flat_take r n (fun y hy => h y (by simp [hy])) (by simpa using hn)
    rw [List.take_succ_cons, List.flatten_cons, List.flatten_cons, ih, Nat.add_mul, Nat.one_mul, List.take_append, List.tkL (l := x) (by rw [hx]; omega), hx, show n * es + es - es = n * es by omega]
theorem freeze1 (r : Rel w0 m ρ0 Φ0 H X) {o : Nat} {ty es : Nat} {xs : List (List FV)} (ho : H o = some (.row ty es xs)) :
  ∃ Y : Cx, Y.w = X.w ∧ Y.U = X.U ∧ Y.ρ = X.ρ ∧ Rel w0 m ρ0 Φ0 (upd H o none) Y ∧ Later X Y ∧ ∀ len v, VR X (.row o len) v → FR Y.Φ Y.w (.sl es (xs.take len)) v := by
 obtain ⟨hu, h0, hlen, flat, how, hfl⟩ := r.obj o _ ho
 rcases how with ⟨hl, ⟨e1, e2⟩ | ⟨g', cap, cur, e1, _, hg', hnc, hcm, hsz, htk⟩⟩
 ·refine ⟨X, rfl, rfl, rfl, r.drop (fun i x hx => by
   by_cases e : i = o
   ·subst e; rw [upd_same] at hx; simp at hx
   ·rwa [upd_ne _ _ _ e] at hx), Later.refl X, ?_⟩
  rintro len v ⟨_, a', n', cap', q1, q2, q3, rfl⟩
  have : xs = [] := List.eq_nil_of_length_eq_zero e2
  subst this
  rw [e1] at q1
  simp only [Value.slice.injEq] at q1
  obtain ⟨rfl, rfl, rfl⟩ := q1
  have : len = 0 := by omega
  subst this
  exact FR.emp es none _
 ·have hbo : hb (X.ρ o) = some g' := by rw [e1]; rfl
  obtain ⟨r', l'⟩ := r.still (w' := X.w) rfl rfl rfl rfl o _ ho g' hbo (fun _ _ => rfl)
  refine ⟨{ X with Φ := fun k => X.Φ k ∨ k = g', w := X.w }, rfl, rfl, rfl, r', l', ?_⟩
  rintro len v ⟨_, a', n', cap', q1, q2, q3, rfl⟩
  rw [e1] at q1
  simp only [Value.slice.injEq] at q1
  obtain ⟨rfl, rfl, rfl⟩ := q1
  have hlt : (xs.take len).length = len := by rw [List.length_take]; omega
  have hfx := flat_take xs len hlen (by omega)
  have hfv : (flat.take (len * es)).length = len * es := by
   rw [List.length_take, hl]
   have := Nat.mul_le_mul_right es q2
   omega
  have := FR.sl (Φ := fun k => X.Φ k ∨ k = g') (w := X.w) es (xs.take len) g' 0 cap (flat.take (len * es)) (.inr rfl) h0 (fun x hx => hlen x (List.mem_of_mem_take hx)) (by rw [hfv, hlt]) (by omega)
   (by
    intro j u hj
    rw [Nat.zero_add, cell_of_row _ _ _ cur ty (0, 0) hg']
    rw [List.getElem?_take] at hj
    split at hj
    ·rw [← htk, List.getElem?_take] at hj
     split at hj
     ·simpa using hj
     ·simp at hj
    ·simp at hj)
   (by
    intro j x u hx hu'
    rw [hfx, List.getElem?_take] at hx
    rw [List.getElem?_take] at hu'
    split at hx
    ·rename_i hj
     rw [if_pos hj] at hu'
     exact l'.fr (hfl.2 j x u hx hu')
    ·simp at hx)
  rw [hlt] at this
  exact this
theorem freezeL (r : Rel w0 m ρ0 Φ0 H X) : ∀ (d : List Nat), ∃ Y : Cx, Y.w = X.w ∧ Y.U = X.U ∧ Rel w0 m ρ0 Φ0 (rmv H d) Y ∧ Later X Y ∧ ∀ o ∈ d, ∀ ty es xs, H o = some (.row ty es xs) → ∀ len v, VR X (.row o len) v → FR Y.Φ Y.w (.sl es (xs.take len)) v
 | [] => ⟨X, rfl, rfl, r.drop (fun o x hx => by simpa [rmv] using hx), Later.refl X, fun o h => by simp at h⟩
 | i :: d => by
  obtain ⟨Y, h1, h2, rY, hL, hf⟩ := freezeL r d
  have hdrop : ∀ (r' : Rel w0 m ρ0 Φ0 (upd (rmv H d) i none) Y), Rel w0 m ρ0 Φ0 (rmv H (i :: d)) Y := fun r' => r'.drop (fun o x hx => by
   unfold rmv at hx
   split at hx
   ·simp at hx
   ·rename_i hn
    simp only [List.mem_cons, not_or] at hn
    rw [upd_ne _ _ _ hn.1]
    unfold rmv
    rw [if_neg hn.2]
    exact hx)
  by_cases hid : i ∈ d
  ·refine ⟨Y, h1, h2, rY.drop (fun o x hx => ?_), hL, fun o ho => ?_⟩
   ·unfold rmv at hx ⊢
    split at hx
    ·simp at hx
    ·rename_i hn
     simp only [List.mem_cons, not_or] at hn
     rw [if_neg hn.2]; exact hx
   ·rcases List.mem_cons.1 ho with rfl | ho
    ·exact hf o hid
    ·exact hf o ho
  by_cases hr : ∃ ty es xs, H i = some (.row ty es xs)
  ·obtain ⟨ty, es, xs, hi⟩ := hr
   have hi' : rmv H d i = some (.row ty es xs) := by unfold rmv; rw [if_neg hid]; exact hi
   obtain ⟨Z, q1, q2, _, rZ, hLZ, hfZ⟩ := freeze1 rY hi'
   refine ⟨Z, q1.trans h1, q2.trans h2, rZ.drop (fun o x hx => ?_), hL.trans hLZ, fun o ho ty' es' xs' hH len v hv => ?_⟩
   ·unfold rmv at hx
    split at hx
    ·simp at hx
    ·rename_i hn
     simp only [List.mem_cons, not_or] at hn
     rw [upd_ne _ _ _ hn.1]
     unfold rmv
     rw [if_neg hn.2]
     exact hx
   ·rcases List.mem_cons.1 ho with rfl | ho
    ·rw [hi] at hH
     simp only [Option.some.injEq, EO.row.injEq] at hH
     obtain ⟨rfl, rfl, rfl⟩ := hH
     exact hfZ len v (hL.vr hv)
    ·exact hLZ.fr (hf o ho ty' es' xs' hH len v hv)
  ·refine ⟨Y, h1, h2, rY.drop (fun o x hx => ?_), hL, fun o ho ty es xs hH => ?_⟩
   ·unfold rmv at hx ⊢
    split at hx
    ·simp at hx
    ·rename_i hn
     simp only [List.mem_cons, not_or] at hn
     rw [if_neg hn.2]; exact hx
   ·rcases List.mem_cons.1 ho with rfl | ho
    ·exact absurd ⟨ty, es, xs, hH⟩ hr
    ·exact hf o ho ty es xs hH
theorem fzMV_vv {Y : Cx} {d : List Nat} (hL : Later X Y) (hf : ∀ o ∈ d, ∀ ty es xs, H o = some (.row ty es xs) → ∀ len v, VR X (.row o len) v → FR Y.Φ Y.w (.sl es (xs.take len)) v) {e : EV} {v : Value} (h : VV X e v) : VV Y (fzMV H d e) v := by
 have vr : ∀ c v, VR X c v → VR Y (fzM H d c) v := by
  intro c v h
  cases c with
  | row o len =>
   simp only [fzM]
   split
   ·rename_i ho
    split
    ·rename_i ty es xs hH
     exact hf o ho ty es xs hH len v h
    ·exact hL.vr h
   ·exact hL.vr h
  | _ => exact hL.vr h
 have vrs : ∀ cs vs, All2 (VR X) cs vs → All2 (VR Y) (cs.map (fzM H d)) vs := by
  intro cs vs h
  refine ⟨by rw [List.length_map]; exact h.1, fun i x y hx hy => ?_⟩
  rw [List.getElem?_map] at hx
  obtain ⟨z, hz, rfl⟩ := map_some' hx
  exact vr z y (h.2 i z y hz hy)
 have vt : ∀ t v, VT X t v → VT Y (fzMT H d t) v := by
  intro t v h
  cases t with
  | c x => exact vr x v h
  | agg cs => obtain ⟨vs, hv, ha⟩ := h; exact ⟨vs, hv, vrs cs vs ha⟩
 cases e with
 | v t => exact vt t v h
 | tup ts =>
  obtain ⟨vs, hv, ha⟩ := h
  refine ⟨vs, hv, by rw [List.length_map]; exact ha.1, fun i x y hx hy => ?_⟩
  rw [List.getElem?_map] at hx
  obtain ⟨z, hz, rfl⟩ := map_some' hx
  exact vt z y (ha.2 i z y hz hy)
 | any => trivial
theorem cok_fz {o : Oper} (k : EK) : cok P o ≠ some (.fz k) := by
 intro h
 have h1 := cok_1 h (by simp) (by simp) (by simp)
 unfold cok1 at h1
 split at h1
 ·simp at h1
 ·split at h1
  ·split at h1
   ·split at h1
    ·replace h1 := Option.bind_eq_some_iff.1 h1; obtain ⟨i, _, h1⟩ := h1
     replace h1 := Option.bind_eq_some_iff.1 h1; obtain ⟨z, _, h1⟩ := h1
     split at h1 <;> simp at h1
    ·simp at h1
   ·simp at h1
  ·simp at h1
 ·split at h1
  ·split at h1
   ·simp at h1
   ·simp at h1
  ·simp at h1
 ·split at h1 <;> simp at h1
 ·simp at h1
 ·replace h1 := Option.map_eq_some_iff.1 h1; obtain ⟨q', _, h2⟩ := h1
  simp at h2
theorem cok1_mp {o : Oper} {mk : MOp} {xs : List Opd} : cok1 P o ≠ some (.mp mk xs) := by
 intro h
 unfold cok1 at h
 split at h
 ·simp at h
 ·split at h
  ·split at h
   ·split at h
    ·replace h := Option.bind_eq_some_iff.1 h; obtain ⟨i, _, h⟩ := h
     replace h := Option.bind_eq_some_iff.1 h; obtain ⟨z, _, h⟩ := h
     split at h <;> simp at h
    ·simp at h
   ·simp at h
  ·simp at h
 ·split at h
  ·split at h
   ·simp at h
   ·simp at h
  ·simp at h
 ·split at h <;> simp at h
 ·simp at h
 ·replace h := Option.map_eq_some_iff.1 h; obtain ⟨q', _, h2⟩ := h
  simp at h2
theorem cok_mp {o : Oper} {mk : MOp} {xs : List Opd} (h : cok P o = some (.mp mk xs)) : cmap P o = some (.mp mk xs) := by
 unfold cok at h
 split at h
 ·rename_i k' hm
  obtain rfl := Option.some.inj h
  exact hm
 ·exfalso
  unfold cok0 at h
  split at h
  ·rename_i k' hn
   obtain rfl := Option.some.inj h
   unfold cnil at hn
   split at hn
   ·split at hn
    ·split at hn <;> simp at hn
    ·simp at hn
   ·split at hn
    ·split at hn
     ·split at hn <;> simp at hn
     ·simp at hn
    ·simp at hn
   ·simp at hn
  ·exact cok1_mp h
theorem map_write {H : Nat → Option EO} {X : Cx} (r : Rel w0 m ρ0 Φ0 H X) {o b : Nat} {rs : List (Nat × IntKind)} {ents ents' : List (List Int × Value)} {es es' : Array MapEntry} {clock clock' : Nat} (hH : H o = some (.mp rs ents)) (e1 : X.ρ o = .map (some b)) (e3 : X.w.heap[b]? = some (.map es clock))
  (hn : (ents'.map (·.1)).Nodup) (hone : ∀ p ∈ ents', FitI rs p.1 ∧ p.2.oneCell' = true) (he' : es'.toList.map (fun e => (e.key, e.val)) = ents'.map (fun p => (Value.agg (cellsI rs p.1).toArray, p.2))) (hb' : es'.toList.map (·.born) = List.range ents'.length) (hc' : clock' = ents'.length) :
  ∃ w', w' = { X.w with heap := X.w.heap.setIfInBounds b (.map es' clock') } ∧ Rel w0 m ρ0 Φ0 (upd H o (some (.mp rs ents'))) { X with w := w' } ∧ Later X { X with w := w' } := by
 have hlt : b < X.w.heap.size := (Array.getElem?_eq_some_iff.1 e3).1
 obtain ⟨r', l'⟩ := r.write (w' := { X.w with heap := X.w.heap.setIfInBounds b (.map es' clock') }) rfl rfl rfl (by simp) o _ hH b (by rw [e1]; rfl)
  (fun k hk => by simp [Ne.symm hk]) (.mp rs ents') ⟨hn, hone, b, es', clock', e1, by simp [hlt], he', hb', hc'⟩
 exact ⟨_, rfl, r', l'⟩
theorem mp_step {mk : MOp} {xs : List Opd} {o : Oper} {id : Nat} {ok : Nat → Prop} {K : EV → (Nat → Option EO) → Prop} {X : Cx} {T : List EV} {H : Nat → Option EO} {a : Act} (hk : cmap P o = some (.mp mk xs))
  (r : Rel w0 m ρ0 Φ0 H X) (hall : All2 (VV X) T a.tmps.toList) (hidU : ¬ X.U id) (hidm : m ≤ id) (h : opM P mk xs id ok K T H) :
  ∃ out X' v H', (execOp a.eval o).run P X.w = .ok out X'.w ∧ (out = .skip ∧ v = .tup [] ∨ ∃ val, out = .value val ∧ VV X' v val) ∧ K v H' ∧ Rel w0 m ρ0 Φ0 H' X' ∧ Later X X' ∧ ∀ i, X'.U i → X.U i ∨ i = id := by
 unfold cmap at hk
 split at hk
 ·rename_i t ho
  split at hk
  ·rename_i kt et hu
   obtain ⟨rs, hrs, hk⟩ := map_some' hk
   simp only [EK.mp.injEq] at hk
   obtain ⟨rfl, rfl⟩ := hk
   simp only [opM] at h
   obtain ⟨r', l'⟩ := r.new (w' := X.w.alloc (.map #[] 0)) rfl rfl rfl (by simp) (fun b hb => heap_old _ _ _ hb) id hidU hidm (.mp rs []) (.map (some X.w.heap.size))
    (by intro b hb'; simp [ft, hb] at hb'; omega) ⟨by simp, by simp, X.w.heap.size, #[], 0, rfl, heap_new _ _, rfl, rfl, rfl⟩
   refine ⟨_, _, _, _, ?_, .inr ⟨.map (some X.w.heap.size), rfl, ?_⟩, h, r', l', ?_⟩
   ·simp [execOp, ho, Instr.makeMap]
   ·exact ⟨.inr rfl, X.w.heap.size, upd_same _ _ _, rfl⟩
   ·intro i hi; exact hi
  ·simp at hk
 ·rename_i args ts ho
  split at hk
  ·rename_i x t hargs hts
   split at hk
   ·rename_i kt et hu
    simp only [Option.some.injEq, EK.mp.injEq] at hk
    obtain ⟨rfl, rfl⟩ := hk
    simp only [opM] at h
    split at h
    ·rename_i q hq
     obtain ⟨hH, hn, hone, b, es, clock, e1, e2, e3, e4, e7, e8⟩ := mp_val r hq (VV_ev hall x)
     refine ⟨_, X, _, _, ?_, .inr ⟨.int .i64 (q.2.2.length : Int), rfl, VV_mklit rfl⟩, h, r, Later.refl X, fun i hi => .inl hi⟩
     have hlen : es.size = q.2.2.length := by
      have := congrArg List.length e4
      simpa using this
     have ha : args = #[x] := by apply Array.ext'; simpa using hargs
     have ht : ts = #[t] := by apply Array.ext'; simpa using hts
     subst ha; subst ht
     simp [execOp, ho, resolve, invoke, builtin, Builtin.len_, run_underlying hu, e2, MapKept.run_getObj_map e3, goInt, hlen]
    ·exact h.elim
   ·simp at hk
  ·simp at hk
 ·rename_i t x k ho
  split at hk
  ·rename_i kt et hu
   obtain ⟨rs, hrs, hk⟩ := bind_some' hk
   obtain ⟨zq, hz, hk⟩ := map_some' hk
   simp only [EK.mp.injEq] at hk
   obtain ⟨rfl, rfl⟩ := hk
   simp only [opM] at h
   split at h
   ·rename_i q' ks hq hks
    obtain ⟨hH, hn, hone, b, es, clock, e1, e2, e3, e4, e7, e8⟩ := mp_val r hq (VV_ev hall x)
    obtain ⟨hok, hr, hK⟩ := h
    rw [hr] at hH hone e4
    obtain ⟨cs, k1, k2⟩ := bind_some' hks
    obtain ⟨e5, hfit⟩ := key_val k1 k2 (VV_ev hall k)
    obtain ⟨KL, hok2⟩ := keyRs_spec hrs
    obtain ⟨lx, hlx⟩ := hok2 ks hfit
    have fin : ∀ (es' : Array MapEntry) (clock' : Nat), es'.toList.map (fun e => (e.key, e.val)) = (entM (.int zq 0) ks q'.2.2).map (fun p => (Value.agg (cellsI rs p.1).toArray, p.2)) → es'.toList.map (·.born) = List.range (entM (.int zq 0) ks q'.2.2).length → clock' = (entM (.int zq 0) ks q'.2.2).length →
      ∃ w', w' = { X.w with heap := X.w.heap.setIfInBounds b (.map es' clock') } ∧ Rel w0 m ρ0 Φ0 (upd H q'.1 (some (.mp rs (entM (.int zq 0) ks q'.2.2)))) { X with w := w' } ∧ Later X { X with w := w' } :=
     fun es' clock' he' hb' hc' => map_write r hH e1 e3 (entM_nodup hn) (fun p hp => by
      rcases entM_mem hp with rfl | hp
      ·exact ⟨hfit, rfl⟩
      ·exact hone p hp) he' hb' hc'
    rcases find_of hrs X.w hfit (fun p hp => (hone p hp).1) e4 with ⟨f1, f2⟩ | ⟨j, e, p, f1, f2, f3, f4, f5, f6⟩
    ·obtain ⟨w', hw', r', l'⟩ := fin (es.push { key := .agg (cellsI rs ks).toArray, val := .int zq 0, born := clock }) (clock + 1) (by rw [entM_none f2]; simp [e4]) (by rw [entM_none f2]; simp [e7, e8, List.range_succ]) (by rw [entM_none f2]; simp [e8])
     refine ⟨_, { X with w := w' }, _, _, ?_, .inr ⟨.tuple #[.int zq 0, .int .i64 (clock : Int)], rfl, ?_⟩, hK, r', l', fun i hi => .inl hi⟩
     ·subst hw'
      simp [execOp, ho, Instr.mapEntry, run_underlying hu, e2, e5, MapKept.run_getObj_map e3, KL.check X.w _ hlx, f1, zeroInt_spec hz, MapKept.run_setObj_map _ e3, goInt]
     ·refine ⟨[.int zq 0, .int .i64 (clock : Int)], rfl, ?_⟩
      rw [getM_none f2, idxM_none f2, ← e8]
      exact All2.cons (VV_mklit rfl) (All2.cons (VV_mklit rfl) All2.nil)
    ·have hjl : j < q'.2.2.length := lt_of_get f4
     have hb0 : e.born = j := by
      have hh := congrArg (·[j]?) e7
      simp only [List.getElem?_map, Array.getElem?_toList, f2, Option.map_some, List.getElem?_range hjl] at hh
      exact Option.some.inj hh
     obtain ⟨w', hw', r', l'⟩ := fin (es.modify j fun e => { e with key := .agg (cellsI rs ks).toArray }) clock (by
      rw [entM_at hn f4 f5]
      rw [← e4]
      apply List.ext_getElem?
      intro i
      simp only [List.getElem?_map, Array.getElem?_toList, Array.getElem?_modify]
      by_cases hij : j = i
      ·subst hij
       simp [f2, f3]
      ·simp only [if_neg hij]) (by
      rw [entM_at hn f4 f5, ← e7]
      exact born_modify _ _ (fun _ => rfl)) (by rw [entM_at hn f4 f5, e8])
     refine ⟨_, { X with w := w' }, _, _, ?_, .inr ⟨.tuple #[e.val, .int .i64 (j : Int)], rfl, ?_⟩, hK, r', l', fun i hi => .inl hi⟩
     ·subst hw'
      simp [execOp, ho, Instr.mapEntry, run_underlying hu, e2, e5, MapKept.run_getObj_map e3, KL.check X.w _ hlx, f1, f2, f3, hb0, KL.stays X.w hlx, MapKept.run_setObj_map _ e3, goInt]
     ·refine ⟨[e.val, .int .i64 (j : Int)], rfl, ?_⟩
      rw [getM_at hn f4 f5, idxM_at hn f4 f5, ← f6]
      exact All2.cons (VV_mklit (by rw [f6]; exact (hone p (List.mgE f4)).2)) (All2.cons (VV_mklit rfl) All2.nil)
   ·exact h.elim
  ·simp at hk
 ·rename_i t x s v ho
  simp only [Option.some.injEq, EK.mp.injEq] at hk
  obtain ⟨rfl, rfl⟩ := hk
  simp only [opM] at h
  split at h
  ·rename_i q' n u hq hns huv
   obtain ⟨hH, hn, hone, b, es, clock, e1, e2, e3, e4, e7, e8⟩ := mp_val r hq (VV_ev hall x)
   obtain ⟨sv, hs1, hs2⟩ := bind_some' hns
   obtain ⟨kk, rfl⟩ := isNum_some hs2
   have e5 := VV_lit hs1 (VV_ev hall s)
   have e6 := VV_lit huv (VV_ev hall v)
   have u1 : u.oneCell' = true := by
    have := VV_ev hall v
    rw [asLit_some huv] at this
    cases this
    assumption
   obtain ⟨hok, ⟨h0, hlt⟩, hK⟩ := h
   have hes : es.size = q'.2.2.length := by
    have := congrArg List.length e4
    simpa using this
   have hidx : es.findIdx? (fun e => ((e.born : Nat) : Int) == n) = some n.toNat := by
    rw [WideElems.findIdx_arr]
    have hj : es.toList[n.toNat]? = some (es[n.toNat]'(by omega)) := by simp [hes, hlt]
    have hb0 : (es[n.toNat]'(by omega)).born = n.toNat := by
     have hh := congrArg (·[n.toNat]?) e7
     simp only [List.getElem?_map, hj, Option.map_some, List.getElem?_range hlt] at hh
     exact Option.some.inj hh
    have := WideElems.findIdx_born (l := es.toList) (by rw [e7]; exact List.nodup_range) hj
    rw [hb0] at this
    rwa [Int.toNat_of_nonneg h0] at this
   obtain ⟨w', hw', r', l'⟩ := map_write r hH e1 e3 (ents' := putM n.toNat u q'.2.2) (es' := es.modify n.toNat fun e => { e with val := u }) (clock' := clock) (by
    rw [putM_keys]; exact hn) (fun p hp => by
     refine ⟨?_, ?_⟩
     ·have : p.1 ∈ q'.2.2.map (·.1) := by rw [← putM_keys (s := n.toNat) (u := u)]; exact List.mem_map.2 ⟨p, hp, rfl⟩
      obtain ⟨p', hp', he'⟩ := List.mem_map.1 this
      rw [← he']; exact (hone p' hp').1
     ·rcases putM_mem hp with hp | hp
      ·rw [hp]; exact u1
      ·exact (hone p hp).2) (by
    unfold putM
    apply List.ext_getElem?
    intro i
    have hh := congrArg (·[i]?) e4
    simp only [List.getElem?_map, Array.getElem?_toList, Array.getElem?_modify, List.getElem?_modify] at hh ⊢
    by_cases hij : n.toNat = i
    ·subst hij
     cases q1 : es[n.toNat]? <;> cases q2 : q'.2.2[n.toNat]? <;> simp [q1, q2] at hh ⊢
     exact hh.1
    ·simp only [if_neg hij]
     cases q1 : es[i]? <;> cases q2 : q'.2.2[i]? <;> simp [q1, q2] at hh ⊢
     exact hh) (by
    have : (putM n.toNat u q'.2.2).length = q'.2.2.length := by simp [putM]
    rw [this, ← e7]
    exact born_modify _ _ (fun _ => rfl)) (by simp [putM, e8])
   refine ⟨_, { X with w := w' }, _, _, ?_, .inl ⟨rfl, rfl⟩, hK, r', l', fun i hi => .inl hi⟩
   subst hw'
   simp [execOp, ho, Instr.entryStore, e2, e5, e6, MapKept.run_getObj_map e3, asInt, asIntOf, hidx, MapKept.run_setObj_map _ e3]
  ·exact h.elim
 ·simp at hk
theorem op0_sound {k : EK} {o : Oper} {e : EOp} {id : Nat} {ok : Nat → Prop} {K : List EV → (Nat → Option EO) → Prop} {Us : Nat → Prop} {T0 : List EV} (hk : cok P o = some k ∨ ∃ q, copR P o = some q ∧ k = .q q) (hdst : o.dst = e.dst)
  (r : Rel w0 m ρ0 Φ0 H X) (hall : All2 (VV X) T a.tmps.toList) (hall0 : All2 (VV X) T0 a.tmps.toList) (hd : a.defers = []) (hU : ∀ o, X.U o → Us o)
  (hfree : ∀ o, id ≤ o → o < id + 16 → ¬ Us o) (hidm : m ≤ id) (h : opK0 P k id ok (fun v H' => K (setD T0 e.dst v) H') T H) :
  o.wp P a X.w (fun a' w' => ∃ T' H', K T' H' ∧ RR w0 m ρ0 Φ0 (fun o => Us o ∨ (id ≤ o ∧ o < id + 16)) T' H' a' w') Q := by
 have hidU : ¬ X.U id := fun hu => hfree _ (Nat.le_refl _) (by omega) (hU _ hu)
 cases k with
 | q qq =>
  simp only [opK0] at h
  split at h
  ·rename_i v ob hev
   obtain ⟨val, X', hrun, r', hL, hUU, hv⟩ := (by
    rcases hk with hk | ⟨q', hq', he'⟩
    ·exact quiet_sound (cok_q (cok_1 hk (by simp) (by simp) (by simp))) r hall hidU hidm hev
    ·simp only [EK.q.injEq] at he'
     subst he'
     exact quiet_soundR hq' r hall hidU hidm hev : Good P o a w0 m ρ0 Φ0 H X (id) v ob)
   unfold Oper.wp
   rw [hrun, Oper.upon_value]
   refine ⟨_, _, h, X', rfl, r', ?_, by rw [put_defers]; exact hd, ?_⟩
   ·rw [hdst]
    exact put_all (hall0.mono fun _ _ => hL.vv) e.dst hv
   ·intro o ho
    rcases (hUU o).1 ho with h | ⟨rfl, _⟩
    ·exact .inl (hU o h)
    ·exact .inr ⟨Nat.le_refl _, by omega⟩
  ·exact h.elim
 | sto n' p x =>
  replace hk := hk.resolve_right (by rintro ⟨_, _, h⟩; simp at h)
  simp only [opK0] at h
  obtain ⟨t, p', x', hop, hn, rfl, rfl⟩ := cok_sto (cok_1 hk (by simp) (by simp) (by simp))
  split at h
  ·rename_i pc cs hp hx
   split at h
   ·rename_i i ob hs
    obtain ⟨w', hrun, r', hL⟩ := g_sto hop hn r hall hp hx h.1 hs
    unfold Oper.wp
    rw [hrun, Oper.upon_skip]
    refine ⟨_, _, h.2.2, { X with w := w' }, rfl, r', ?_, by rw [put_defers]; exact hd, fun o ho => .inl (hU o ho)⟩
    rw [hdst]
    exact put_all (hall0.mono fun _ _ => hL.vv) e.dst ⟨[], rfl, All2.nil⟩
   ·exact h.elim
  ·exact h.elim
 | app ty es bytes s x =>
  replace hk := hk.resolve_right (by rintro ⟨_, _, h⟩; simp at h)
  simp only [opK0] at h
  obtain ⟨args, ts, s', x', t, i, z, hop, hargs, hts, hu, hi, hz, hzl, h0, rfl, rfl, rfl, rfl⟩ := cok_app (cok_1 hk (by simp) (by simp) (by simp))
  split at h
  ·rename_i sc xc hs hx
   split at h
   ·rename_i old xs ys hb hy
    obtain ⟨val, w', hrun, r', hL, hv⟩ := g_app hop hargs hts hu hi hz hzl h0 r hall hidU hidm hs hb hx hy h.1.1 h.1.2.1 h.1.2.2
    unfold Oper.wp
    rw [hrun, Oper.upon_value]
    refine ⟨_, _, h.2.2, _, rfl, r', ?_, by rw [put_defers]; exact hd, ?_⟩
    ·rw [hdst]
     exact put_all (hall0.mono fun _ _ => hL.vv) e.dst hv
    ·intro o ho
     rcases ho with h | rfl
     ·exact .inl (hU o h)
     ·exact .inr ⟨Nat.le_refl _, by omega⟩
   ·exact h.elim
  ·exact h.elim
 | cpy es d s =>
  replace hk := hk.resolve_right (by rintro ⟨_, _, h⟩; simp at h)
  simp only [opK0] at h
  obtain ⟨args, ts, d', s', t, e', hop, hargs, hts, hu, hes, rfl, rfl⟩ := cok_cpy (cok_1 hk (by simp) (by simp) (by simp))
  split at h
  ·rename_i dc xc hdc hx
   split at h
   ·rename_i ys hy
    split at h
    ·rename_i i ob n' hs
     obtain ⟨w', hrun, r', hL⟩ := g_cpy hop hargs hts hu hes r hall hdc hx hy hs
     unfold Oper.wp
     rw [hrun, Oper.upon_value]
     refine ⟨_, _, h.2, { X with w := w' }, rfl, r', ?_, by rw [put_defers]; exact hd, fun o ho => .inl (hU o ho)⟩
     rw [hdst]
     exact put_all (hall0.mono fun _ _ => hL.vv) e.dst (VV_mklit rfl)
    ·exact h.elim
   ·exact h.elim
  ·exact h.elim
 | call f args =>
  replace hk := hk.resolve_right (by rintro ⟨_, _, h⟩; simp at h)
  simp only [opK0] at h
  obtain ⟨as, ts, hop, hb, rfl⟩ := cok_call (cok_1 hk (by simp) (by simp) (by simp))
  refine call_step hall0 (vals := as.toList.map a.eval) ?_ hdst r hall hd hU (args_all hall _) hfree hidm h
  have e1 : Array.map a.eval as = (as.toList.map a.eval).toArray := toList_map_eval
  simp only [execOp, hop, resolve, Sem.run_bind]
  show ((Deferred.ofValue (a.eval (.func f)) (Array.map a.eval as)).run P X.w).andThen _ = _
  simp only [Act.eval, Deferred.ofValue, Sem.run_pure, Result.andThen_ok, invoke]
  rw [run_callFunc hb]
  simp only [Array.append_empty]
  rw [show (#[] ++ Array.map a.eval as) = Array.map a.eval as by simp]
  congr 2
 | clo x args =>
  replace hk := hk.resolve_right (by rintro ⟨_, _, h⟩; simp at h)
  simp only [opK0] at h
  obtain ⟨t, as, ts, hop, rfl, rfl⟩ := cok_clo (cok_1 hk (by simp) (by simp) (by simp))
  split at h
  ·rename_i f caps hx
   have hv := VV_c hx (VV_ev hall (.tmp t))
   obtain ⟨vs, hvs, hcaps⟩ := hv
   have hcv : All2 (VV X) (caps.map fun p => EV.v (.c (.ptr p.1 p.2))) vs := by
    refine ⟨by rw [List.length_map]; exact hcaps.1, ?_⟩
    intro i x y hx hy
    rw [List.getElem?_map] at hx
    obtain ⟨p, hp, rfl⟩ := map_some' hx
    exact hcaps.2 i p y hp hy
   refine call_step hall0 (vals := as.toList.map a.eval ++ vs) ?_ hdst r hall hd hU ((args_all hall _).append hcv) hfree hidm h.2
   have e1 : Array.map a.eval as = (as.toList.map a.eval).toArray := toList_map_eval
   simp only [execOp, hop, resolve]
   rw [hvs]
   simp only [Deferred.ofValue, Sem.run_bind, Sem.run_pure, Result.andThen_ok, invoke]
   rw [run_callFunc h.1, e1]
   congr 2
   simp
  ·exact h.elim
 | nild neg x =>
  replace hk := hk.resolve_right (by rintro ⟨_, _, h⟩; simp at h)
  simp only [opK0] at h
  obtain ⟨op, t, el, y, t', hop, hu, hneg, rfl⟩ := cok_nild hk
  split at h
  ·rename_i c hx
   split at h
   ·rename_i n' hn
    obtain ⟨ad, len, cap, hv, h1, h2⟩ := nilLen_spec r (VV_c hx (VV_ev hall y)) hn
    have hrun : (execOp a.eval o).run P X.w = .ok (.value (.bool (if ad.isNone then !neg else neg))) X.w := by
     have hc : a.eval (.const (.slice none 0 0)) = .slice none 0 0 := rfl
     have hg : ∀ op', (eqGuard op' t y (.const (.slice none 0 0)) (.slice ad len cap) (.slice none 0 0)).run P X.w = .ok () X.w := by
      intro op'; cases op' <;> rfl
     rcases hneg with ⟨rfl, rfl⟩ | ⟨rfl, rfl⟩
     ·simp only [execOp, hop, hv, hc, Sem.run_bind, hg, Result.andThen_ok, binOp, run_equal_slice_nil X.w t el ad len cap hu, Sem.run_pure]
      cases ad <;> rfl
     ·simp only [execOp, hop, hv, hc, Sem.run_bind, hg, Result.andThen_ok, binOp, run_equal_slice_nil X.w t el ad len cap hu, Sem.run_pure]
      cases ad <;> rfl
    unfold Oper.wp
    rw [hrun, Oper.upon_value]
    cases ad with
    | none =>
     refine ⟨_, _, h.1 (h1 rfl), X, rfl, r, ?_, by rw [put_defers]; exact hd, fun o ho => .inl (hU o ho)⟩
     rw [hdst]
     exact put_all hall0 e.dst (VV_mklit rfl)
    | some ad =>
     refine ⟨_, _, h.2 (h2 (by simp)), X, rfl, r, ?_, by rw [put_defers]; exact hd, fun o ho => .inl (hU o ho)⟩
     rw [hdst]
     exact put_all hall0 e.dst (VV_mklit rfl)
   ·exact h.elim
  ·exact h.elim
 | mrk x =>
  replace hk := hk.resolve_right (by rintro ⟨_, _, h⟩; simp at h)
  simp only [opK0] at h
  obtain ⟨t, el, y, hop, hu, he, rfl⟩ := cok_mrk hk
  split at h
  ·rename_i c hx
   split at h
   ·rename_i i xs hro
    obtain ⟨ty, len, rfl, hi, hl, hne⟩ := rowOf_spec hro
    obtain ⟨val, X', hrun, r', hL, hUU, hv⟩ := g_mrk hop hu he r hall hx hi hl hne
    unfold Oper.wp
    rw [hrun, Oper.upon_value]
    refine ⟨_, _, h.2, X', rfl, r', ?_, by rw [put_defers]; exact hd, fun o ho => .inl (hU o ((hUU o).1 ho))⟩
    rw [hdst]
    exact put_all (hall0.mono fun _ _ => hL.vv) e.dst hv
   ·exact h.elim
  ·exact h.elim
 | mp mk xs =>
  replace hk := hk.resolve_right (by rintro ⟨_, _, h⟩; simp at h)
  simp only [opK0] at h
  obtain ⟨out, X', v, H', hrun, hout, hK, r', hL, hUU⟩ := mp_step (cok_mp hk) r hall hidU hidm h
  unfold Oper.wp
  rw [hrun]
  have hu : ∀ o, X'.U o → Us o ∨ (id ≤ o ∧ o < id + 16) := fun o ho => by
   rcases hUU o ho with h | rfl
   ·exact .inl (hU o h)
   ·exact .inr ⟨Nat.le_refl _, by omega⟩
  rcases hout with ⟨rfl, rfl⟩ | ⟨val, rfl, hv⟩
  ·rw [Oper.upon_skip]
   refine ⟨_, _, hK, X', rfl, r', ?_, by rw [put_defers]; exact hd, hu⟩
   rw [hdst]
   exact put_all (hall0.mono fun _ _ => hL.vv) e.dst ⟨[], rfl, All2.nil⟩
  ·rw [Oper.upon_value]
   refine ⟨_, _, hK, X', rfl, r', ?_, by rw [put_defers]; exact hd, hu⟩
   rw [hdst]
   exact put_all (hall0.mono fun _ _ => hL.vv) e.dst hv
 | fz k => exact h.elim
 | bad => exact h.elim
theorem op_sound {e : EOp} {n : Nat} {lg : List (Nat × List Nat)} {K : List EV → (Nat → Option EO) → Prop} {Us : Nat → Prop} (hl : Link P ops e) (hR : RR w0 m ρ0 Φ0 Us T H a w)
  (hfree : ∀ o, n + 16 * e.i ≤ o → o < n + 16 * e.i + 16 → ¬ Us o) (hm : m ≤ n) (h : opT P n e lg K T H) :
  wpOp P ops Q e.i (fun a' w' => ∃ T' H', K T' H' ∧ RR w0 m ρ0 Φ0 (fun o => Us o ∨ (n + 16 * e.i ≤ o ∧ o < n + 16 * e.i + 16)) T' H' a' w') a w := by
 obtain ⟨o, ho, hk, hdst, hgd⟩ := hl
 obtain ⟨X, rfl, r, hall, hd, hU⟩ := hR
 have hidU : ¬ X.U (n + 16 * e.i) := fun hu => hfree _ (Nat.le_refl _) (by omega) (hU _ hu)
 have hidm : m ≤ n + 16 * e.i := by omega
 unfold wpOp
 rw [ho]
 unfold opT at h
 split at h
 ·exact h.elim
 ·rename_i hg
  have hw := wanted_of hall hgd hg
  simp only [hw, Bool.false_eq_true, if_false]
  refine ⟨_, _, h, X, rfl, r, ?_, by rw [put_defers]; exact hd, fun o ho => .inl (hU o ho)⟩
  rw [hdst]
  exact put_all hall e.dst ⟨[], rfl, All2.nil⟩
 ·rename_i hg
  have hw := wanted_of hall hgd hg
  simp only [hw, if_true]
  refine .inl ?_
  cases hkk : e.k with
  | fz k =>
   rw [hkk] at hk h
   have hk' : cok P o = some k := by
    rcases hk with hk | ⟨q, _, hq⟩ | ⟨k', hk', he⟩
    ·exact absurd hk (cok_fz k)
    ·simp at hq
    ·simp only [EK.fz.injEq] at he; rw [he]; exact hk'
   obtain ⟨h1, h2⟩ := h
   obtain ⟨d, hd'⟩ : ∃ d, deadK k T H = d := ⟨_, rfl⟩
   rw [hd'] at h2
   obtain ⟨Y, hYw, hYU, rY, hL, hfr⟩ := freezeL r d
   have hallY : All2 (VV Y) (T.map (fzMV H d)) a.tmps.toList := by
    refine ⟨by rw [List.length_map]; exact hall.1, fun i x y hx hy => ?_⟩
    rw [List.getElem?_map] at hx
    obtain ⟨z, hz, rfl⟩ := map_some' hx
    exact fzMV_vv hL hfr (hall.2 i z y hz hy)
   rw [← hYw]
   exact op0_sound (.inl hk') hdst rY hallY (hall.mono fun _ _ => hL.vv) hd (fun o ho => hU o (by rw [← hYU]; exact ho)) hfree hidm h2
  | _ =>
   rw [hkk] at hk h
   simp only [opK] at h
   refine op0_sound (hk.imp (fun h => h) (fun h => ?_)) hdst r hall hall hd hU hfree hidm h
   rcases h with h | ⟨k', _, he⟩
   ·exact h
   ·simp at he
end
end Go.EW
