/- Lazy equations: one operation at a time; what comes behind is not looked at (its token is not 'on' yet). -/
import Derived.Test.YtejjhgdnmknejaaEwR
namespace Go.EW
open Go

inductive Tok where
  | on
def need {α : Type} (o : Option α) (K : α → Tok → Prop) : Prop := ∃ a, o = some a ∧ K a .on
def Alt (p : Prop) (A B : Tok → Prop) : Prop := (p → A .on) ∧ (¬p → B .on)

@[simp] theorem need_some {α : Type} (a : α) (K : α → Tok → Prop) : need (some a) K = K a .on := by simp [need]
@[simp] theorem need_none {α : Type} (K : α → Tok → Prop) : need none K = False := by simp [need]
@[simp] theorem need_map {α β : Type} (o : Option α) (f : α → β) (K : β → Tok → Prop) : need (o.map f) K = need o (fun a t => K (f a) t) := by
  cases o <;> simp [need]
@[simp] theorem need_bind {α β : Type} (o : Option α) (f : α → Option β) (K : β → Tok → Prop) : need (o.bind f) K = need o (fun a _ => need (f a) K) := by
  cases o <;> simp [need]
@[simp] theorem need_ite {α : Type} (c : Prop) [Decidable c] (x : Option α) (K : α → Tok → Prop) : need (if c then x else none) K = (c ∧ need x K) := by
  by_cases h : c <;> simp [h]
@[simp] theorem need_ite' {α : Type} (c : Prop) [Decidable c] (x : Option α) (K : α → Tok → Prop) : need (if c then none else x) K = (¬c ∧ need x K) := by
  by_cases h : c <;> simp [h]
@[simp] theorem Alt_true (A B : Tok → Prop) : Alt True A B = A .on := by simp [Alt]
@[simp] theorem Alt_false (A B : Tok → Prop) : Alt False A B = B .on := by simp [Alt]
def Both (p q : Prop) (A B : Tok → Prop) : Prop := (p → A .on) ∧ (q → B .on)
@[simp] theorem Both_ff (A B : Tok → Prop) : Both False False A B = True := by simp [Both]
@[simp] theorem Both_tf (A B : Tok → Prop) : Both True False A B = A .on := by simp [Both]
@[simp] theorem Both_ft (A B : Tok → Prop) : Both False True A B = B .on := by simp [Both]
theorem both {p q : Prop} {A B : Tok → Prop} (h1 : p → A .on) (h2 : q → B .on) : Both p q A B := ⟨h1, h2⟩
theorem alt {p : Prop} {A B : Tok → Prop} (h1 : p → A .on) (h2 : ¬p → B .on) : Alt p A B := ⟨h1, h2⟩
theorem altL {p : Prop} {A B : Tok → Prop} (h : p) (h1 : A .on) : Alt p A B := ⟨fun _ => h1, fun h' => (h' h).elim⟩
theorem altR {p : Prop} {A B : Tok → Prop} (h : ¬p) (h1 : B .on) : Alt p A B := ⟨fun h' => (h h').elim, fun _ => h1⟩

def asB : Value → Option Bool
  | .bool b => some b
  | _ => none
attribute [simp] asB
def asClo : EC → Option (FuncId × List (Nat × Nat))
  | .clo f caps => some (f, caps)
  | _ => none
attribute [simp] asClo

def ewT (_ : Tok) (P : Program) (m : Nat) (b : EB) (Q : Exit → St → Tok → Prop) (s : St) : Prop := ew P m b (fun e s => Q e s .on) s
def chT (_ : Tok) (P : Program) (n : Nat) (l : List EOp) (lg : List (Nat × List Nat)) (K : List EV → (Nat → Option EO) → Tok → Prop) (T : List EV) (H : Nat → Option EO) : Prop := chain P n l lg (fun T H => K T H .on) T H
/-- A row of operations that are taken in their own order. -/
def chain0 (P : Program) (n : Nat) : List EOp → (List EV → (Nat → Option EO) → Prop) → List EV → (Nat → Option EO) → Prop
  | [], K, T, H => K T H
  | e :: r, K, T, H => match gdOK e.gd T with
    | none => False
    | some false => chain0 P n r K (setD T e.dst (.tup [])) H
    | some true => opK P e.k (n + 16 * e.i) (fun _ => True) (fun v H' => chain0 P n r K (setD T e.dst v) H') T H
def c0T (_ : Tok) (P : Program) (n : Nat) (l : List EOp) (K : List EV → (Nat → Option EO) → Tok → Prop) (T : List EV) (H : Nat → Option EO) : Prop := chain0 P n l (fun T H => K T H .on) T H
def opT' (_ : Tok) (P : Program) (k : EK) (id : Nat) (ok : Nat → Prop) (K : EV → (Nat → Option EO) → Tok → Prop) (T : List EV) (H : Nat → Option EO) : Prop := opK P k id ok (fun v H => K v H .on) T H
def ECall (P : Program) (f : FuncId) (args : List EV) (H : Nat → Option EO) (base : Nat) (ok : Nat → Prop) (K : EV → (Nat → Option EO) → Tok → Prop) : Prop := ECallAt P f args H base ok (fun v H => K v H .on)
def LoopT (P : Program) (m : Nat) (b : EB) (Q : Exit → St → Tok → Prop) (s : St) : Prop := ELoop m (ew P m b) (fun e s => Q e s .on) s
def opZ (_ : Tok) (P : Program) (k : EK) (id : Nat) (ok : Nat → Prop) (K : EV → (Nat → Option EO) → Tok → Prop) (T : List EV) (H : Nat → Option EO) : Prop := opK0 P k id ok (fun v H => K v H .on) T H
def FzT (_ : Tok) (P : Program) (k : EK) (d : List Nat) (id : Nat) (ok : Nat → Prop) (K : EV → (Nat → Option EO) → Tok → Prop) (T : List EV) (H : Nat → Option EO) : Prop := (∀ o ∈ d, ok o) ∧ opK0 P k id ok (fun v H => K v H .on) (T.map (fzMV H d)) (rmv H d)
def anyO : Nat → Prop := fun _ => True
attribute [simp] anyO

theorem chain0_iff {P : Program} {n : Nat} {K : List EV → (Nat → Option EO) → Prop} : ∀ {l : List EOp} {lg : List (Nat × List Nat)} {T : List EV} {H : Nat → Option EO}, (∀ e ∈ l, e.uz = []) → (chain P n l lg K T H ↔ chain0 P n l K T H)
  | [], _, _, _, _ => Iff.rfl
  | e :: r, lg, T, H, hl => by
    have he := hl e (List.mem_cons_self ..)
    have hr := fun x hx => hl x (List.mem_cons_of_mem _ hx)
    simp only [chain, opT, chain0]
    cases gdOK e.gd T with
    | none => exact Iff.rfl
    | some t =>
      cases t
      · exact chain0_iff (l := r) hr
      · exact ⟨opK.mono (fun i _ => trivial) (fun _ _ h => (chain0_iff (l := r) hr).1 h), opK.mono (fun i _ => by simp [Wok, he]) (fun _ _ h => (chain0_iff (l := r) hr).2 h)⟩

section
variable {P : Program} {m n : Nat}

@[simp] theorem ew_skip (Q : Exit → St → Tok → Prop) (s : St) : ewT .on P m .skip Q s = Q .normal s .on := Eq.trans rfl rfl
@[simp] theorem ew_reg (l : List EOp) (k : Nat) (Q : Exit → St → Tok → Prop) (T : List EV) (H : Nat → Option EO) : ewT .on P m (.reg l k) Q ⟨T, H, n⟩ = match l.all fun e => e.uz.isEmpty with
    | true => c0T .on P n l (fun T H t => Q .normal ⟨T, H, n + 16 * k⟩ t) T H
    | false => chT .on P n l [] (fun T H t => Q .normal ⟨T, H, n + 16 * k⟩ t) T H := by
  split
  · rename_i h
    have : ∀ e ∈ l, e.uz = [] := by simpa using h
    exact propext (chain0_iff this)
  · rfl
@[simp] theorem ew_seq (a b : EB) (Q : Exit → St → Tok → Prop) (s : St) : ewT .on P m (.seq a b) Q s = ewT .on P m a (fun e s' t => match e with | .normal => ewT t P m b Q s' | e => Q e s' t) s := by
  simp only [ewT, ew]
  congr
  try (funext e s'; cases e <;> rfl)
@[simp] theorem ew_cond (c : Opd) (a b : EB) (Q : Exit → St → Tok → Prop) (T : List EV) (H : Nat → Option EO) : ewT .on P m (.cond c a b) Q ⟨T, H, n⟩ = need (asLit (ev T c)) fun v _ => need (asB v) fun t _ => Alt (t = true) (fun t => ewT t P m a Q ⟨T, H, n⟩) (fun t => ewT t P m b Q ⟨T, H, n⟩) := by
  simp only [ewT, ew]
  cases h : asLit (ev T c) with
  | none => simp
  | some v =>
    cases v <;> simp [asB]
    rename_i t
    cases t <;> simp
@[simp] theorem ew_block (id : Nat) (b : EB) (Q : Exit → St → Tok → Prop) (s : St) : ewT .on P m (.block id b) Q s = ewT .on P m b (fun e s' t => match e with | .exit i => if i = id then Q .normal s' t else Q (.exit i) s' t | e => Q e s' t) s := by
  simp only [ewT, ew]
  congr
  try (funext e s'; cases e <;> rfl)
@[simp] theorem ew_loop (b : EB) (Q : Exit → St → Tok → Prop) (s : St) : ewT .on P m (.loop b) Q s = LoopT P m b Q s := Eq.trans rfl rfl
@[simp] theorem ew_exit (id : Nat) (Q : Exit → St → Tok → Prop) (s : St) : ewT .on P m (.exit id) Q s = Q (.exit id) s .on := Eq.trans rfl rfl
@[simp] theorem ew_bot (Q : Exit → St → Tok → Prop) (s : St) : ewT .on P m .bot Q s = False := Eq.trans rfl rfl
@[simp] theorem ew_ret (Q : Exit → St → Tok → Prop) (s : St) : ewT .on P m .ret Q s = Q .ret s .on := Eq.trans rfl rfl

@[simp] theorem c0_nil (K : List EV → (Nat → Option EO) → Tok → Prop) (T : List EV) (H : Nat → Option EO) : c0T .on P n [] K T H = K T H .on := Eq.trans rfl rfl
@[simp] theorem c0_cons0 (i : Nat) (dst : Option Nat) (k : EK) (uz : List Nat) (r : List EOp) (K : List EV → (Nat → Option EO) → Tok → Prop) (T : List EV) (H : Nat → Option EO) :
    c0T .on P n (⟨i, dst, none, k, uz⟩ :: r) K T H = opT' .on P k (n + 16 * i) anyO (fun v H' t => c0T t P n r K (setD T dst v) H') T H := Eq.trans rfl rfl
@[simp] theorem c0_cons1 (i : Nat) (dst : Option Nat) (g : Nat × Bool) (k : EK) (uz : List Nat) (r : List EOp) (K : List EV → (Nat → Option EO) → Tok → Prop) (T : List EV) (H : Nat → Option EO) :
    c0T .on P n (⟨i, dst, some g, k, uz⟩ :: r) K T H = need (gdOK (some g) T) fun b _ => Alt (b = true) (fun t => opT' t P k (n + 16 * i) anyO (fun v H' t => c0T t P n r K (setD T dst v) H') T H) (fun t => c0T t P n r K (setD T dst (.tup [])) H) := by
  simp only [c0T, chain0]
  cases gdOK (some g) T with
  | none => simp
  | some t => cases t <;> simp [opT'] <;> rfl
@[simp] theorem ch_nil (lg : List (Nat × List Nat)) (K : List EV → (Nat → Option EO) → Tok → Prop) (T : List EV) (H : Nat → Option EO) : chT .on P n [] lg K T H = K T H .on := Eq.trans rfl rfl
@[simp] theorem ch_cons0 (i : Nat) (dst : Option Nat) (k : EK) (uz : List Nat) (r : List EOp) (lg : List (Nat × List Nat)) (K : List EV → (Nat → Option EO) → Tok → Prop) (T : List EV) (H : Nat → Option EO) :
    chT .on P n (⟨i, dst, none, k, uz⟩ :: r) lg K T H = opT' .on P k (n + 16 * i) (Wok lg uz) (fun v H' t => chT t P n r ((i, k.looks T) :: lg) K (setD T dst v) H') T H := Eq.trans rfl rfl
@[simp] theorem ch_cons1 (i : Nat) (dst : Option Nat) (g : Nat × Bool) (k : EK) (uz : List Nat) (r : List EOp) (lg : List (Nat × List Nat)) (K : List EV → (Nat → Option EO) → Tok → Prop) (T : List EV) (H : Nat → Option EO) :
    chT .on P n (⟨i, dst, some g, k, uz⟩ :: r) lg K T H = need (gdOK (some g) T) fun b _ => Alt (b = true) (fun t => opT' t P k (n + 16 * i) (Wok lg uz) (fun v H' t => chT t P n r ((i, k.looks T) :: lg) K (setD T dst v) H') T H) (fun t => chT t P n r ((i, k.looks T) :: lg) K (setD T dst (.tup [])) H) := by
  simp only [chT, chain, opT]
  cases gdOK (some g) T with
  | none => simp
  | some t => cases t <;> simp [opT']

variable {id : Nat} {ok : Nat → Prop} {K : EV → (Nat → Option EO) → Tok → Prop} {T : List EV} {H : Nat → Option EO}
@[simp] theorem opK_q (q : QOp) : opT' .on P (.q q) id ok K T H = need (evQ q T H id) fun r t => K r.1 (addO H id r.2) t := by
  simp only [opT', opK, opK0]
  cases evQ q T H id with
  | none => simp
  | some r => simp
@[simp high] theorem opK_pick (c a b : Opd) : opT' .on P (.q (.pick c a b)) id ok K T H = need (asLit (ev T c)) fun v _ => need (asB v) fun t _ => Alt (t = true) (fun t => K (ev T a) H t) (fun t => K (ev T b) H t) := by
  simp only [opT', opK, opK0, evQ]
  cases h : asLit (ev T c) with
  | none => simp
  | some v =>
    cases v <;> simp [asB]
    rename_i t
    cases t <;> simp [addO]
@[simp] theorem opK_sto (k : Nat) (p x : Opd) : opT' .on P (.sto k p x) id ok K T H = need (asC (ev T p)) fun pc _ => need (asCells (ev T x)) fun cs _ => need (stoAt H pc cs) fun r t => cs.length = k ∧ ok r.1 ∧ K (.tup []) (upd H r.1 (some r.2)) t := by
  simp only [opT', opK, opK0]
  cases asC (ev T p) with
  | none => simp
  | some pc =>
    cases asCells (ev T x) with
    | none => simp
    | some cs =>
      simp only [need_some]
      cases stoAt H pc cs with
      | none => simp
      | some r => simp
@[simp] theorem opK_app (ty : TypeId) (es bytes : Nat) (s x : Opd) : opT' .on P (.app ty es bytes s x) id ok K T H = need (asC (ev T s)) fun sc _ => need (asC (ev T x)) fun xc _ => need (baseOf H ty es sc) fun r _ => need (elems2 H es xc) fun ys t =>
    (r.2.length + ys.length ≤ 9223372036854775807 ∧ (r.2.length + ys.length) * bytes ≤ 140737488355328) ∧ (∀ o, r.1 = some o → ok o) ∧ K (.v (.c (.row id (r.2.length + ys.length)))) (upd (dropO H r.1) id (some (.row ty es (r.2 ++ ys)))) t := by
  simp only [opT', opK, opK0]
  cases asC (ev T s) with
  | none => simp
  | some sc =>
    cases asC (ev T x) with
    | none => simp
    | some xc =>
      simp only [need_some]
      cases baseOf H ty es sc with
      | none => simp
      | some r =>
        cases elems2 H es xc with
        | none => simp
        | some ys => simp
@[simp] theorem opK_cpy (es : Nat) (d s : Opd) : opT' .on P (.cpy es d s) id ok K T H = need (asC (ev T d)) fun dc _ => need (asC (ev T s)) fun xc _ => need (elems2 H es xc) fun ys _ => need (cpyAt H es dc ys) fun r t => ok r.1 ∧ K (.lit (.int .i64 (r.2.2 : Int))) (upd H r.1 (some r.2.1)) t := by
  simp only [opT', opK, opK0]
  cases asC (ev T d) with
  | none => simp
  | some dc =>
    cases asC (ev T s) with
    | none => simp
    | some xc =>
      simp only [need_some]
      cases elems2 H es xc with
      | none => simp
      | some ys =>
        simp only [need_some]
        cases cpyAt H es dc ys with
        | none => simp
        | some r => simp
@[simp] theorem opK_call (f : FuncId) (args : List Opd) : opT' .on P (.call f args) id ok K T H = ECall P f (args.map (ev T)) H id ok K := Eq.trans rfl rfl
@[simp] theorem opK_clo (x : Opd) (args : List Opd) : opT' .on P (.clo x args) id ok K T H = need (asC (ev T x)) fun c _ => need (asClo c) fun r _ => bodyOK P r.1 = true ∧ ECall P r.1 (args.map (ev T) ++ r.2.map fun p => .v (.c (.ptr p.1 p.2))) H id ok K := by
  simp only [opT', opK, opK0]
  cases asC (ev T x) with
  | none => simp
  | some c => cases c <;> simp [asClo, ECall]
@[simp] theorem opK_nild (neg : Bool) (x : Opd) : opT' .on P (.nild neg x) id ok K T H = need (asC (ev T x)) fun c _ => need (nilLen H c) fun n _ => Both (n = 0) (isNil c = false) (fun t => K (.lit (.bool !neg)) H t) (fun t => K (.lit (.bool neg)) H t) := by
  simp only [opT', opK, opK0]
  cases asC (ev T x) with
  | none => simp
  | some c =>
    simp only [need_some]
    cases nilLen H c with
    | none => simp
    | some n => simp [Both]
@[simp] theorem opK_fz (k : EK) : opT' .on P (.fz k) id ok K T H = FzT .on P k (deadK k T H) id ok K T H := Eq.trans rfl rfl
@[simp] theorem FzT_nil (k : EK) : FzT .on P k [] id ok K T H = opZ .on P k id ok K T H := by
  have h1 : ∀ c, fzM H [] c = c := by
    intro c; cases c <;> simp [fzM]
  have h2 : ∀ t, fzMT H [] t = t := by
    intro t
    cases t with
    | c x => simp [fzMT, h1]
    | agg cs => simp only [fzMT]; congr 1; rw [List.map_congr_left (g := fun c => c) (fun c _ => h1 c)]; simp
  have h3 : ∀ e, fzMV H [] e = e := by
    intro e
    cases e with
    | v t => simp [fzMV, h2]
    | tup ts => simp only [fzMV]; congr 1; rw [List.map_congr_left (g := fun c => c) (fun c _ => h2 c)]; simp
    | any => rfl
  have h4 : T.map (fzMV H []) = T := by rw [List.map_congr_left (g := fun c => c) (fun c _ => h3 c)]; simp
  have h5 : rmv H [] = H := by funext o; simp [rmv]
  simp [FzT, h4, h5, opZ]
@[simp] theorem FzT_cons (k : EK) (o : Nat) (d : List Nat) : FzT .on P k (o :: d) id ok K T H = ((∀ i ∈ o :: d, ok i) ∧ opZ .on P k id ok K (T.map (fzMV H (o :: d))) (rmv H (o :: d))) := Eq.trans rfl rfl
@[simp] theorem opZ_q (q : QOp) : opZ .on P (.q q) id ok K T H = opT' .on P (.q q) id ok K T H := Eq.trans rfl rfl
@[simp] theorem opZ_sto (n : Nat) (p x : Opd) : opZ .on P (.sto n p x) id ok K T H = opT' .on P (.sto n p x) id ok K T H := Eq.trans rfl rfl
@[simp] theorem opK_mrk (x : Opd) : opT' .on P (.mrk x) id ok K T H = need (asC (ev T x)) fun c _ => need (rowOf H c) fun r t => ok r.1 ∧ K (.v (.c (.fz (.sl 1 r.2)))) (upd H r.1 none) t := by
  simp only [opT', opK, opK0]
  cases asC (ev T x) with
  | none => simp
  | some c =>
    simp only [need_some]
    cases rowOf H c with
    | none => simp
    | some n => simp
@[simp] theorem Wok_nil (lg : List (Nat × List Nat)) (i : Nat) : Wok lg [] i = True := by simp [Wok]
end

/-! ### code that is looked at only when its turn has come -/
def hid {α : Type} (f : Unit → α) : α := f ()
def clr (e : EOp) : EOp := ⟨e.i, e.dst, e.gd, e.k, []⟩
def reg0 (l : List EOp) (n : Nat) : EB := .reg (l.map clr) n
theorem chain0_clr (P : Program) (n : Nat) (K : List EV → (Nat → Option EO) → Prop) : ∀ (l : List EOp) (T : List EV) (H : Nat → Option EO), chain0 P n (l.map clr) K T H = chain0 P n l K T H
  | [], _, _ => rfl
  | e :: r, T, H => by
    simp only [List.map_cons, chain0, clr]
    cases gdOK e.gd T with
    | none => rfl
    | some t =>
      cases t
      · exact chain0_clr P n K r _ _
      · simp only [chain0_clr P n K r]
def reg1 (l : List EOp) (n : Nat) : EB := .reg l n
section
variable {P : Program} {m n : Nat}
@[simp] theorem ew_hid (f : Unit → EB) (Q : Exit → St → Tok → Prop) (s : St) : ewT .on P m (hid f) Q s = ewT .on P m (f ()) Q s := Eq.trans rfl rfl
@[simp] theorem ew_reg0 (l : List EOp) (k : Nat) (Q : Exit → St → Tok → Prop) (T : List EV) (H : Nat → Option EO) : ewT .on P m (reg0 l k) Q ⟨T, H, n⟩ = c0T .on P n l (fun T H t => Q .normal ⟨T, H, n + 16 * k⟩ t) T H := by
  have h1 := ew_reg (P := P) (m := m) (n := n) (l.map clr) k Q T H
  have h2 : ((l.map clr).all fun e => e.uz.isEmpty) = true := by simp [clr]
  rw [h2] at h1
  refine h1.trans ?_
  exact chain0_clr P n _ l T H
@[simp] theorem ew_reg1 (l : List EOp) (k : Nat) (Q : Exit → St → Tok → Prop) (T : List EV) (H : Nat → Option EO) : ewT .on P m (reg1 l k) Q ⟨T, H, n⟩ = chT .on P n l [] (fun T H t => Q .normal ⟨T, H, n + 16 * k⟩ t) T H := Eq.trans rfl rfl
@[simp] theorem c0_hid (f : Unit → List EOp) (K : List EV → (Nat → Option EO) → Tok → Prop) (T : List EV) (H : Nat → Option EO) : c0T .on P n (hid f) K T H = c0T .on P n (f ()) K T H := Eq.trans rfl rfl
@[simp] theorem ch_hid (f : Unit → List EOp) (lg : List (Nat × List Nat)) (K : List EV → (Nat → Option EO) → Tok → Prop) (T : List EV) (H : Nat → Option EO) : chT .on P n (hid f) lg K T H = chT .on P n (f ()) lg K T H := Eq.trans rfl rfl
end

/-! ### numbers -/
def ibit (op : BinOp) (k : IntKind) (a b : Int) : Int := match op with
  | .and => k.wrap (BitVec.ofInt k.bits a &&& BitVec.ofInt k.bits b).toNat
  | .or => k.wrap (BitVec.ofInt k.bits a ||| BitVec.ofInt k.bits b).toNat
  | .xor => k.wrap (BitVec.ofInt k.bits a ^^^ BitVec.ofInt k.bits b).toNat
  | _ => k.wrap (BitVec.ofInt k.bits a &&& ~~~BitVec.ofInt k.bits b).toNat
def ishl (k : IntKind) (a b : Int) : Int := k.wrap (a * 2 ^ min b.toNat k.bits)
def ishr (k : IntKind) (a b : Int) : Int := a.fdiv (2 ^ min b.toNat k.bits)
section
variable (k k' : IntKind) (a b : Int)
@[simp] theorem pbin_add : pbin .add (.int k a) (.int k b) = some (.int k (k.wrap (a + b))) := by simp [pbin, pint]
@[simp] theorem pbin_sub : pbin .sub (.int k a) (.int k b) = some (.int k (k.wrap (a - b))) := by simp [pbin, pint]
@[simp] theorem pbin_mul : pbin .mul (.int k a) (.int k b) = some (.int k (k.wrap (a * b))) := by simp [pbin, pint]
@[simp] theorem pbin_quo : pbin .quo (.int k a) (.int k b) = if b = 0 then none else some (.int k (k.wrap (a.tdiv b))) := by simp [pbin, pint]
@[simp] theorem pbin_rem : pbin .rem (.int k a) (.int k b) = if b = 0 then none else some (.int k (a.tmod b)) := by simp [pbin, pint]
@[simp] theorem pbin_and : pbin .and (.int k a) (.int k b) = some (.int k (ibit .and k a b)) := by simp only [pbin, pint, ibit, if_true]
@[simp] theorem pbin_or : pbin .or (.int k a) (.int k b) = some (.int k (ibit .or k a b)) := by simp only [pbin, pint, ibit, if_true]
@[simp] theorem pbin_xor : pbin .xor (.int k a) (.int k b) = some (.int k (ibit .xor k a b)) := by simp only [pbin, pint, ibit, if_true]
@[simp] theorem pbin_andNot : pbin .andNot (.int k a) (.int k b) = some (.int k (ibit .andNot k a b)) := by simp only [pbin, pint, ibit, if_true]
@[simp] theorem pbin_eql : pbin .eql (.int k a) (.int k b) = some (.bool (decide (a = b))) := by simp [pbin, pint]
@[simp] theorem pbin_neq : pbin .neq (.int k a) (.int k b) = some (.bool (decide (a ≠ b))) := by simp [pbin, pint]
@[simp] theorem pbin_lss : pbin .lss (.int k a) (.int k b) = some (.bool (decide (a < b))) := by simp [pbin, pint]
@[simp] theorem pbin_leq : pbin .leq (.int k a) (.int k b) = some (.bool (decide (a ≤ b))) := by simp [pbin, pint]
@[simp] theorem pbin_gtr : pbin .gtr (.int k a) (.int k b) = some (.bool (decide (b < a))) := by simp [pbin, pint]
@[simp] theorem pbin_geq : pbin .geq (.int k a) (.int k b) = some (.bool (decide (b ≤ a))) := by simp [pbin, pint]
@[simp] theorem pbin_shl : pbin .shl (.int k a) (.int k' b) = if b < 0 then none else some (.int k (ishl k a b)) := by simp [pbin, psh, ishl]
@[simp] theorem pbin_shr : pbin .shr (.int k a) (.int k' b) = if b < 0 then none else some (.int k (ishr k a b)) := by simp [pbin, psh, ishr]
end
@[simp] theorem pbin_seql (x y : ByteArray) : pbin .eql (.string x) (.string y) = some (.bool (decide (x.toList = y.toList))) := Eq.trans rfl rfl
@[simp] theorem pbin_sneq (x y : ByteArray) : pbin .neq (.string x) (.string y) = some (.bool (decide (x.toList ≠ y.toList))) := Eq.trans rfl rfl
@[simp] theorem pbin_slss (x y : ByteArray) : pbin .lss (.string x) (.string y) = some (.bool (Op.bytesLess x.toList y.toList)) := Eq.trans rfl rfl

end Go.EW
