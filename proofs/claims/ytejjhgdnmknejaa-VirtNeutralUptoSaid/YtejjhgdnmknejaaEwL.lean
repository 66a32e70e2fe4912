/- One E-operation as a transformer of predicates; what it hangs on; moving it ahead of quiet ones. -/
import Derived.Test.YtejjhgdnmknejaaEwK
namespace Go.EW
open Go

/-! ### what a quiet operation looks at -/
def QOp.opds : QOp → List Opd
  | .mov x | .un _ x | .cnv _ x | .eqp _ x | .eqi _ x | .box _ x | .ldc x | .lda _ x | .nilc x | .fad _ x | .fgc _ x | .fga _ _ x | .ext _ x | .mki _ x | .len x | .lens x | .b2s x | .s2b x | .s2a _ _ x => [x]
  | .pick c a b => [c, a, b]
  | .bin _ x y | .eqb _ x y | .eqa _ _ _ x y | .eqs _ _ _ _ x y | .iad _ _ x y | .isl _ x y | .mks _ _ _ _ x y | .ixs x y => [x, y]
  | .alloc _ _ => []
  | .build _ ps => ps.map (·.2.2)
  | .bsl _ _ _ ps | .bsr _ _ _ _ ps => ps.map (·.2)
  | .ssl _ x lo hi | .sar _ x lo hi | .sst x lo hi => x :: (lo.toList ++ hi.toList)
  | .mkf _ cs => cs
  | .minmax _ xs => xs

def refOf : Option EC → List Nat
  | some x => refsC x
  | none => []
def QOp.looks (q : QOp) (T : List EV) : List Nat :=
  match q with
  | .ldc x | .lda _ x => match asC (ev T x) with
    | some (.ptr o _) => [o]
    | some (.eptr o _ _ _) => [o]
    | _ => []
  | .isl _ x _ | .s2a _ _ x => match asC (ev T x) with
    | some (.row o _) => [o]
    | _ => []
  | .b2s x => match asC (ev T x) with
    | some (.row o _) => [o]
    | some (.bsl o _ _) => [o]
    | _ => []
  | _ => []

theorem putParts_congr {T T' : List EV} : ∀ (ps : List (Nat × Nat × Opd)) (cs : List EC), (∀ x ∈ ps.map (·.2.2), ev T x = ev T' x) → putParts T cs ps = putParts T' cs ps
  | [], _, _ => rfl
  | (off, n, x) :: r, cs, h => by
    have h1 : ev T x = ev T' x := h x (by simp)
    have h2 : ∀ cs, putParts T cs r = putParts T' cs r := fun cs => putParts_congr r cs (fun y hy => h y (by rw [List.map_cons]; exact List.mem_cons_of_mem _ hy))
    simp only [putParts, h1, h2]
theorem setParts_congr {T T' : List EV} (es : Nat) : ∀ (ps : List (Nat × Opd)) (xs : List (List FV)), (∀ x ∈ ps.map (·.2), ev T x = ev T' x) → setParts T es xs ps = setParts T' es xs ps
  | [], _, _ => rfl
  | (i, x) :: r, xs, h => by
    have h1 : ev T x = ev T' x := h x (by simp)
    have h2 : ∀ cs, setParts T es cs r = setParts T' es cs r := fun cs => setParts_congr es r cs (fun y hy => h y (by rw [List.map_cons]; exact List.mem_cons_of_mem _ hy))
    simp only [setParts, h1, h2]
theorem lits_congr {T T' : List EV} : ∀ (xs : List Opd), (∀ x ∈ xs, ev T x = ev T' x) → lits T xs = lits T' xs
  | [], _ => rfl
  | x :: r, h => by
    simp only [lits, h x (by simp), lits_congr r (fun y hy => h y (by simp [hy]))]
theorem capsOf_congr {T T' : List EV} : ∀ (xs : List Opd), (∀ x ∈ xs, ev T x = ev T' x) → capsOf T xs = capsOf T' xs
  | [], _ => rfl
  | x :: r, h => by
    simp only [capsOf, h x (by simp), capsOf_congr r (fun y hy => h y (by simp [hy]))]
theorem bnd_congr {T T' : List EV} (d : Nat) (x : Option Opd) (h : ∀ y ∈ x.toList, ev T y = ev T' y) : bnd T d x = bnd T' d x := by
  cases x with
  | none => rfl
  | some y => simp only [bnd, h y (by simp)]

theorem evQ_T {q : QOp} {T T' : List EV} {H : Nat → Option EO} {id : Nat} (h : ∀ x ∈ q.opds, ev T x = ev T' x) : evQ q T H id = evQ q T' H id := by
  cases q <;> simp only [QOp.opds] at h <;> simp only [evQ]
  case build z ps => rw [putParts_congr ps _ h]
  case bsl es z len ps => rw [setParts_congr es ps _ h]
  case bsr ty es z len ps => rw [setParts_congr es ps _ h]
  case mkf f cs => rw [capsOf_congr cs h]
  case minmax mx xs => rw [lits_congr xs h]
  case ssl es x lo hi =>
    rw [h x (by simp)]
    simp only [bnd_congr 0 lo (fun y hy => h y (by simp [Option.mem_toList.1 hy])), fun d => bnd_congr (T := T) (T' := T') d hi (fun y hy => h y (by simp [Option.mem_toList.1 hy]))]
  case sar len x lo hi =>
    rw [h x (by simp)]
    simp only [bnd_congr 0 lo (fun y hy => h y (by simp [Option.mem_toList.1 hy])), fun d => bnd_congr (T := T) (T' := T') d hi (fun y hy => h y (by simp [Option.mem_toList.1 hy]))]
  case sst x lo hi =>
    rw [h x (by simp)]
    simp only [bnd_congr 0 lo (fun y hy => h y (by simp [Option.mem_toList.1 hy])), fun d => bnd_congr (T := T) (T' := T') d hi (fun y hy => h y (by simp [Option.mem_toList.1 hy]))]
  all_goals first
    | (rw [h _ (List.mem_cons_self ..), h _ (List.mem_cons_of_mem _ (List.mem_cons_self ..)), h _ (List.mem_cons_of_mem _ (List.mem_cons_of_mem _ (List.mem_cons_self ..)))]; done)
    | (rw [h _ (List.mem_cons_self ..), h _ (List.mem_cons_of_mem _ (List.mem_cons_self ..))]; done)
    | (rw [h _ (List.mem_cons_self ..)]; done)

theorem looks_T {q : QOp} {T T' : List EV} (h : ∀ x ∈ q.opds, ev T x = ev T' x) : q.looks T = q.looks T' := by
  cases q <;> simp only [QOp.opds] at h <;> simp only [QOp.looks] <;> rw [h _ (List.mem_cons_self ..)]

theorem cellsAt_H {H H' : Nat → Option EO} {p : EC} (h : ∀ o ∈ (match p with | .ptr o _ => [o] | .eptr o _ _ _ => [o] | _ => []), H o = H' o) : cellsAt H p = cellsAt H' p := by
  cases p <;> simp only [cellsAt] <;> first | rfl | rw [h _ (by simp)]

theorem cellsAtN_H {H H' : Nat → Option EO} {n : Nat} {p : EC} (h : ∀ o ∈ (match p with | .ptr o _ => [o] | .eptr o _ _ _ => [o] | _ => []), H o = H' o) : cellsAtN H n p = cellsAtN H' n p := by
  unfold cellsAtN
  rw [cellsAt_H h]
  have e : cellsRun H p = cellsRun H' p := by
    cases p <;> simp only [cellsRun] <;> first | rfl | rw [h _ (by simp)]
  rw [e]

theorem evQ_H {q : QOp} {T : List EV} {H H' : Nat → Option EO} {id : Nat} (h : ∀ o ∈ q.looks T, H o = H' o) : evQ q T H id = evQ q T H' id := by
  cases q <;> simp only [QOp.looks] at h <;> simp only [evQ]
  case ldc x =>
    cases hx : asC (ev T x) with
    | none => rfl
    | some p =>
      rw [hx] at h
      simp only [Option.bind_some]
      rw [cellsAt_H (H := H) (H' := H') (p := p) (by cases p <;> exact h)]
  case lda n x =>
    cases hx : asC (ev T x) with
    | none => rfl
    | some p =>
      rw [hx] at h
      simp only [Option.bind_some]
      rw [cellsAtN_H (H := H) (H' := H') (p := p) (by cases p <;> exact h)]
  case isl es x i =>
    cases hx : asC (ev T x) with
    | none => rfl
    | some p =>
      rw [hx] at h
      cases p with
      | row o len => dsimp only; rw [h o (by simp)]
      | fz y => cases y <;> rfl
      | _ => rfl
  case s2a n es x =>
    cases hx : asC (ev T x) with
    | none => rfl
    | some p =>
      rw [hx] at h
      cases p with
      | row o len => dsimp only; rw [h o (by simp)]
      | fz y => cases y <;> rfl
      | _ => rfl
  case b2s x =>
    cases hx : asC (ev T x) with
    | none => rfl
    | some p =>
      rw [hx] at h
      simp only [Option.bind_some]
      have he : elems2 H 1 p = elems2 H' 1 p := by
        cases p with
        | row o len => simp only [elems2, elemsOf]; rw [h o (by simp)]
        | bsl o k len => simp only [elems2]; rw [h o (by simp)]
        | _ => rfl
      rw [he]

theorem evQ_live {q : QOp} {T : List EV} {H : Nat → Option EO} {id : Nat} {r : EV × Option EO} (h : evQ q T H id = some r) : ∀ o ∈ q.looks T, H o ≠ none := by
  intro o ho hn
  cases q <;> simp only [QOp.looks] at ho <;> try (simp at ho; done)
  case ldc x =>
    simp only [evQ] at h
    split at ho
    · rename_i o' k hx; simp at ho; subst ho; simp [hx, cellsAt, hn] at h
    · rename_i o' es i k hx; simp at ho; subst ho; simp [hx, cellsAt, hn] at h
    · simp at ho
  case lda n x =>
    simp only [evQ] at h
    split at ho
    · rename_i o' k hx; simp at ho; subst ho; simp [hx, cellsAtN, cellsAt, hn] at h
    · rename_i o' es i k hx; simp at ho; subst ho; simp [hx, cellsAtN, cellsAt, hn] at h
    · simp at ho
  case s2a n es x =>
    simp only [evQ] at h
    split at ho
    · rename_i o' k hx
      simp at ho; subst ho
      simp only [hx, hn] at h
      simp at h
    · simp at ho
  case isl es x i =>
    simp only [evQ] at h
    split at ho
    · rename_i o' k hx
      simp at ho; subst ho
      simp only [hx, hn] at h
      replace h := bind_some' h; obtain ⟨iv, _, h⟩ := h
      replace h := bind_some' h; obtain ⟨n, _, h⟩ := h
      simp at h
    · simp at ho
  case b2s x =>
    simp only [evQ] at h
    split at ho
    · rename_i o' k hx; simp at ho; subst ho; simp [hx, elems2, elemsOf, hn] at h
    · rename_i o' k l hx; simp at ho; subst ho; simp [hx, elems2, hn] at h
    · simp at ho

/-! ### one operation -/
inductive EK where
  | q (q : QOp)
  | sto (n : Nat) (p x : Opd)
  | app (ty : TypeId) (es bytes : Nat) (s x : Opd)
  | cpy (es : Nat) (d s : Opd)
  | call (f : FuncId) (args : List Opd)
  | clo (x : Opd) (args : List Opd)
  | nild (neg : Bool) (x : Opd)
  | mrk (x : Opd)
  | fz (k : EK)
  | bad
  deriving Inhabited

structure EOp where
  i : Nat
  dst : Option Nat
  gd : Option (Nat × Bool)
  k : EK
  uz : List Nat
  deriving Inhabited

def EK.quiet : EK → Bool
  | .q _ => true
  | _ => false
def EK.opds : EK → List Opd
  | .q qq => qq.opds
  | .sto _ p x => [p, x]
  | .app _ _ _ s x => [s, x]
  | .cpy _ d s => [d, s]
  | .call _ args => args
  | .clo x args => x :: args
  | .nild _ x | .mrk x => [x]
  | .fz k => k.opds
  | .bad => []
def EOp.opds (e : EOp) : List Opd := (match e.gd with | some (t, _) => [Opd.t t] | none => []) ++ e.k.opds
def EK.looks (k : EK) (T : List EV) : List Nat :=
  match k with
  | .q qq => qq.looks T
  | _ => []

def setD (T : List EV) : Option Nat → EV → List EV
  | none, _ => T
  | some d, v => T.set d v

def gdOK (gd : Option (Nat × Bool)) (T : List EV) : Option Bool :=
  match gd with
  | none => some true
  | some (t, want) => match nth T t with
    | .v (.c (.fz (.lit (.bool b)))) => some (b == want)
    | .tup [] => some false
    | _ => none

/-- Nothing that was read ahead of it out of order is written. -/
def Wok (lg : List (Nat × List Nat)) (uz : List Nat) (i : Nat) : Prop := ∀ p ∈ lg, p.1 ∈ uz → i ∉ p.2

def refsAt (H : Nat → Option EO) (o : Nat) : List Nat :=
  match H o with
  | some x => refsO x
  | none => []
def stepR (H : Nat → Option EO) (l : List Nat) : List Nat := l ++ l.flatMap (refsAt H)
def reach (H : Nat → Option EO) (l : List Nat) : List Nat := stepR H (stepR H (stepR H l))

def ECallAt (P : Program) (f : FuncId) (args : List EV) (H : Nat → Option EO) (base : Nat) (ok : Nat → Prop) (K : EV → (Nat → Option EO) → Prop) : Prop :=
  ∃ ids args' Hc post, conArgs H ids args = some args' ∧ objsIn H ids ids = some Hc ∧ ids.Nodup ∧ (∀ i ∈ ids, i ∈ reach H (args.flatMap refsV)) ∧ (∀ i ∈ ids, ok i ∨ ∀ y H', post y H' → after H ids base H' i = H i) ∧ ECalls P f args' Hc post ∧
    ∀ y H', post y H' → ((args.flatMap (fzV ids) = [] ∨ (noSlV y = true ∧ ∀ x, some x ∈ H' → noSlO x = true)) ∧ H'.length ≤ ids.length + 16) ∧ K (renV (rnm ids base) y) (after H ids base H')

def bodyOK (P : Program) (f : FuncId) : Bool :=
  match P.funcs[f]? with
  | some fn => fn.body.isSome && fn.name != "runtime.NumGoroutine"
  | none => false

/-- The length of a slice of which nil has none. -/
def nilF : FV → Option Nat
  | .sl _ xs => some xs.length
  | .lit (.slice none 0 0) => some 0
  | _ => none
def nilLen (H : Nat → Option EO) : EC → Option Nat
  | .fz x => nilF x
  | .row o len => match H o with
    | some (.row _ _ _) => some len
    | _ => none
  | _ => none
/-- A row of single cells, whole and not empty. -/
def rowOf (H : Nat → Option EO) : EC → Option (Nat × List (List FV))
  | .row o len => match H o with
    | some (.row _ es xs) => if es = 1 ∧ len = xs.length ∧ 0 < len then some (o, xs) else none
    | _ => none
  | _ => none
/-- The literal nil. -/
def isNil : EC → Bool
  | .fz (.lit _) => true
  | _ => false

def opK0 (P : Program) (k : EK) (id : Nat) (ok : Nat → Prop) (K : EV → (Nat → Option EO) → Prop) (T : List EV) (H : Nat → Option EO) : Prop :=
  match k with
  | .q q => match evQ q T H id with
    | some (v, ob) => K v (addO H id ob)
    | none => False
  | .sto n p x => match asC (ev T p), asCells (ev T x) with
    | some pc, some cs => match stoAt H pc cs with
      | some (i, ob) => cs.length = n ∧ ok i ∧ K (.tup []) (upd H i (some ob))
      | none => False
    | _, _ => False
  | .app ty es bytes s x => match asC (ev T s), asC (ev T x) with
    | some sc, some xc => match baseOf H ty es sc, elems2 H es xc with
      | some (old, xs), some ys => (xs.length + ys.length ≤ 9223372036854775807 ∧ (xs.length + ys.length) * bytes ≤ 140737488355328) ∧ (∀ o, old = some o → ok o) ∧
          K (.v (.c (.row id (xs.length + ys.length)))) (upd (dropO H old) id (some (.row ty es (xs ++ ys))))
      | _, _ => False
    | _, _ => False
  | .cpy es d s => match asC (ev T d), asC (ev T s) with
    | some dc, some xc => match elems2 H es xc with
      | some ys => match cpyAt H es dc ys with
        | some (i, ob, n) => ok i ∧ K (.lit (.int .i64 (n : Int))) (upd H i (some ob))
        | none => False
      | none => False
    | _, _ => False
  | .call f args => ECallAt P f (args.map (ev T)) H id ok K
  | .clo x args => match asC (ev T x) with
    | some (.clo f caps) => bodyOK P f = true ∧ ECallAt P f (args.map (ev T) ++ caps.map fun p => .v (.c (.ptr p.1 p.2))) H id ok K
    | _ => False
  | .nild neg x => match asC (ev T x) with
    | some c => match nilLen H c with
      | some n => (n = 0 → K (.lit (.bool !neg)) H) ∧ (isNil c = false → K (.lit (.bool neg)) H)
      | none => False
    | none => False
  | .mrk x => match asC (ev T x) with
    | some c => match rowOf H c with
      | some (o, xs) => ok o ∧ K (.v (.c (.fz (.sl 1 xs)))) (upd H o none)
      | none => False
    | none => False
  | .fz _ => False
  | .bad => False

/-! ### rows that are handed on into other rows: they are only looked at from then on -/
def rowsE : EC → List Nat
  | .row o _ => [o]
  | _ => []
def rowsV : EV → List Nat
  | .v (.c x) => rowsE x
  | .v (.agg cs) => cs.flatMap rowsE
  | _ => []
def isRow (H : Nat → Option EO) (o : Nat) : Bool := match H o with
  | some (.row _ _ _) => true
  | _ => false
def dataK (k : EK) (T : List EV) : List EV :=
  match k with
  | .q (.bsl _ _ _ ps) => ps.map fun p => ev T p.2
  | .sto _ p x => match asC (ev T p) with
    | some (.eptr _ _ _ _) => [ev T x]
    | _ => []
  | _ => []
def deadK (k : EK) (T : List EV) (H : Nat → Option EO) : List Nat := ((dataK k T).flatMap rowsV).filter (isRow H)
def fzM (H : Nat → Option EO) (d : List Nat) : EC → EC
  | .row o len => if o ∈ d then match H o with
      | some (.row _ es xs) => .fz (.sl es (xs.take len))
      | _ => .row o len
    else .row o len
  | c => c
def fzMT (H : Nat → Option EO) (d : List Nat) : TV → TV
  | .c x => .c (fzM H d x)
  | .agg cs => .agg (cs.map (fzM H d))
def fzMV (H : Nat → Option EO) (d : List Nat) : EV → EV
  | .v t => .v (fzMT H d t)
  | .tup ts => .tup (ts.map (fzMT H d))
  | .any => .any
def rmv (H : Nat → Option EO) (d : List Nat) : Nat → Option EO := fun o => if o ∈ d then none else H o

def opK (P : Program) (k : EK) (id : Nat) (ok : Nat → Prop) (K : EV → (Nat → Option EO) → Prop) (T : List EV) (H : Nat → Option EO) : Prop :=
  match k with
  | .fz k => (∀ o ∈ deadK k T H, ok o) ∧ opK0 P k id ok K (T.map (fzMV H (deadK k T H))) (rmv H (deadK k T H))
  | k => opK0 P k id ok K T H

def opT (P : Program) (n : Nat) (e : EOp) (lg : List (Nat × List Nat)) (K : List EV → (Nat → Option EO) → Prop) (T : List EV) (H : Nat → Option EO) : Prop :=
  match gdOK e.gd T with
  | none => False
  | some false => K (setD T e.dst (.tup [])) H
  | some true => opK P e.k (n + 16 * e.i) (Wok lg e.uz) (fun v H' => K (setD T e.dst v) H') T H

def chain (P : Program) (n : Nat) : List EOp → List (Nat × List Nat) → (List EV → (Nat → Option EO) → Prop) → List EV → (Nat → Option EO) → Prop
  | [], _, K, T, H => K T H
  | e :: r, lg, K, T, H => opT P n e lg (fun T' H' => chain P n r ((e.i, e.k.looks T) :: lg) K T' H') T H

theorem ECallAt.mono {P : Program} {f : FuncId} {args : List EV} {H : Nat → Option EO} {base : Nat} {ok ok' : Nat → Prop} {K K' : EV → (Nat → Option EO) → Prop} (ho : ∀ i, ok i → ok' i) (hK : ∀ v H, K v H → K' v H) (h : ECallAt P f args H base ok K) : ECallAt P f args H base ok' K' :=
  let ⟨ids, args', Hc, post, h1, h2, h3, h4, h5, h6, h7⟩ := h
  ⟨ids, args', Hc, post, h1, h2, h3, h4, fun i hi => (h5 i hi).imp (ho i) id, h6, fun y H' hp => ⟨(h7 y H' hp).1, hK _ _ (h7 y H' hp).2⟩⟩

theorem opK0.mono {P : Program} {k : EK} {id : Nat} {ok ok' : Nat → Prop} {K K' : EV → (Nat → Option EO) → Prop} {T : List EV} {H : Nat → Option EO} (ho : ∀ i, ok i → ok' i) (hK : ∀ v H, K v H → K' v H) (h : opK0 P k id ok K T H) : opK0 P k id ok' K' T H := by
  cases k <;> simp only [opK0] at h ⊢
  case q q =>
    split at h
    · exact hK _ _ h
    · exact h
  case sto n p x =>
    split at h
    · split at h
      · exact ⟨h.1, ho _ h.2.1, hK _ _ h.2.2⟩
      · exact h
    · exact h
  case app ty es bytes s x =>
    split at h
    · split at h
      · exact ⟨h.1, fun o e => ho _ (h.2.1 o e), hK _ _ h.2.2⟩
      · exact h
    · exact h
  case cpy es d s =>
    split at h
    · split at h
      · split at h
        · exact ⟨ho _ h.1, hK _ _ h.2⟩
        · exact h
      · exact h
    · exact h
  case call f args => exact ECallAt.mono ho hK h
  case clo x args =>
    split at h
    · exact ⟨h.1, ECallAt.mono ho hK h.2⟩
    · exact h
  case nild neg x =>
    split at h
    · split at h
      · exact ⟨fun e => hK _ _ (h.1 e), fun e => hK _ _ (h.2 e)⟩
      · exact h
    · exact h
  case mrk x =>
    split at h
    · split at h
      · exact ⟨ho _ h.1, hK _ _ h.2⟩
      · exact h
    · exact h

theorem opK.mono {P : Program} {k : EK} {id : Nat} {ok ok' : Nat → Prop} {K K' : EV → (Nat → Option EO) → Prop} {T : List EV} {H : Nat → Option EO} (ho : ∀ i, ok i → ok' i) (hK : ∀ v H, K v H → K' v H) (h : opK P k id ok K T H) : opK P k id ok' K' T H := by
  cases k with
  | fz k => exact ⟨fun o hm => ho o (h.1 o hm), opK0.mono ho hK h.2⟩
  | _ => simp only [opK] at h ⊢; exact opK0.mono ho hK h

theorem opT.mono {P : Program} {n : Nat} {e : EOp} {lg lg' : List (Nat × List Nat)} {K K' : List EV → (Nat → Option EO) → Prop} {T : List EV} {H : Nat → Option EO} (hl : ∀ p ∈ lg', p ∈ lg) (hK : ∀ T H, K T H → K' T H) (h : opT P n e lg K T H) : opT P n e lg' K' T H := by
  unfold opT at h ⊢
  split at h
  · exact h
  · exact hK _ _ h
  · exact opK.mono (fun i hi p hp => hi p (hl p hp)) (fun _ _ => hK _ _) h

theorem chain.mono {P : Program} {n : Nat} {K K' : List EV → (Nat → Option EO) → Prop} (hK : ∀ T H, K T H → K' T H) : ∀ {l : List EOp} {lg lg' : List (Nat × List Nat)} {T : List EV} {H : Nat → Option EO}, (∀ p ∈ lg', p ∈ lg) → chain P n l lg K T H → chain P n l lg' K' T H
  | [], _, _, _, _, _, h => hK _ _ h
  | e :: r, lg, lg', T, H, hl, h => opT.mono hl (fun T' H' h' => chain.mono hK (l := r) (by
      intro p hp
      rcases List.mem_cons.1 hp with rfl | hp
      · exact List.mem_cons_self ..
      · exact List.mem_cons_of_mem _ (hl p hp)) h') h

end Go.EW
