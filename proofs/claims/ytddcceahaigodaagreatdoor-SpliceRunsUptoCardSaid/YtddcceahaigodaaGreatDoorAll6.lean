import Derived.Test.YtddcceahaigodaaGreatDoorAll5
import Derived.OpenShut
import Derived.DataReads
import Derived.ReadAgain
import Derived.ChangeBears
import Derived.ChangeSame
import Derived.Below
import Derived.Test.YtddcceahaigodaaGreatDoorRows
import Derived.WalkKit
import Derived.ProofKit
import Derived.JoinedCond
import Derived.Test.YtddcceahaigodaaGreatDoorCards
import Derived.Test.YtddcceahaigodaaGreatDoorTie
import Derived.LaidHandle
import Derived.Deep.DeepHandedRow
import Derived.LaidLaws
namespace Go.EW
open Go
inductive Tok where
 | on
def need {α : Type} (o : Option α) (K : α → Tok → Prop) : Prop := ∃ a, o = some a ∧ K a .on
def Alt (p : Prop) (A B : Tok → Prop) : Prop := (p → A .on) ∧ (¬p → B .on)
@[simp] theorem need_some {α : Type} (a : α) (K : α → Tok → Prop) : need (some a) K = K a .on := by simp [need]
@[simp] theorem need_none {α : Type} (K : α → Tok → Prop) : need none K = False := by simp [need]
@[simp] theorem need_map {α β : Type} (o : Option α) (f : α → β) (K : β → Tok → Prop) : need (o.map f) K = need o (fun a t => K (f a) t) := by
 cases o <;> simp [need]
@[simp] theorem need_bind {α β : Type} (o : Option α) (f : α → Option β) (K : β → Tok → Prop) : need (o.bind f) K = need o (fun a _ => need (f a) K) := by
 cases o <;> simp [need]
@[simp] theorem need_ite {α : Type} (c : Prop) [Decidable c] (x : Option α) (K : α → Tok → Prop) : need (if c then x else none) K = (c ∧ need x K) := by
 by_cases h : c <;> simp [h]
@[simp] theorem need_ite' {α : Type} (c : Prop) [Decidable c] (x : Option α) (K : α → Tok → Prop) : need (if c then none else x) K = (¬c ∧ need x K) := by
 by_cases h : c <;> simp [h]
@[simp] theorem Alt_true (A B : Tok → Prop) : Alt True A B = A .on := by simp [Alt]
@[simp] theorem Alt_false (A B : Tok → Prop) : Alt False A B = B .on := by simp [Alt]
def Both (p q : Prop) (A B : Tok → Prop) : Prop := (p → A .on) ∧ (q → B .on)
@[simp] theorem Both_ff (A B : Tok → Prop) : Both False False A B = True := by simp [Both]
@[simp] theorem Both_tf (A B : Tok → Prop) : Both True False A B = A .on := by simp [Both]
@[simp] theorem Both_ft (A B : Tok → Prop) : Both False True A B = B .on := by simp [Both]
theorem both {p q : Prop} {A B : Tok → Prop} (h1 : p → A .on) (h2 : q → B .on) : Both p q A B := ⟨h1, h2⟩
theorem alt {p : Prop} {A B : Tok → Prop} (h1 : p → A .on) (h2 : ¬p → B .on) : Alt p A B := ⟨h1, h2⟩
def asB : Value → Option Bool
 | .bool b => some b
 | _ => none
attribute [simp] asB
def asClo : EC → Option (FuncId × List (Nat × Nat))
 | .clo f caps => some (f, caps)
 | _ => none
attribute [simp] asClo
def ewT (_ : Tok) (P : Program) (m : Nat) (b : EB) (Q : Exit → St → Tok → Prop) (s : St) : Prop := ew P m b (fun e s => Q e s .on) s
def chT (_ : Tok) (P : Program) (n : Nat) (l : List EOp) (lg : List (Nat × List Nat)) (K : List EV → (Nat → Option EO) → Tok → Prop) (T : List EV) (H : Nat → Option EO) : Prop := chain P n l lg (fun T H => K T H .on) T H
def chain0 (P : Program) (n : Nat) : List EOp → (List EV → (Nat → Option EO) → Prop) → List EV → (Nat → Option EO) → Prop
 | [], K, T, H => K T H
 | e :: r, K, T, H => match gdOK e.gd T with
  | none => False
  | some false => chain0 P n r K (setD T e.dst (.tup [])) H
  | some true => opK P e.k (n + 16 * e.i) (fun _ => True) (fun v H' => chain0 P n r K (setD T e.dst v) H') T H
def c0T (_ : Tok) (P : Program) (n : Nat) (l : List EOp) (K : List EV → (Nat → Option EO) → Tok → Prop) (T : List EV) (H : Nat → Option EO) : Prop := chain0 P n l (fun T H => K T H .on) T H
def opT' (_ : Tok) (P : Program) (k : EK) (id : Nat) (ok : Nat → Prop) (K : EV → (Nat → Option EO) → Tok → Prop) (T : List EV) (H : Nat → Option EO) : Prop := opK P k id ok (fun v H => K v H .on) T H
def ECall (P : Program) (f : FuncId) (args : List EV) (H : Nat → Option EO) (base : Nat) (ok : Nat → Prop) (K : EV → (Nat → Option EO) → Tok → Prop) : Prop := ECallAt P f args H base ok (fun v H => K v H .on)
def LoopT (P : Program) (m : Nat) (b : EB) (Q : Exit → St → Tok → Prop) (s : St) : Prop := ELoop m (ew P m b) (fun e s => Q e s .on) s
def opZ (_ : Tok) (P : Program) (k : EK) (id : Nat) (ok : Nat → Prop) (K : EV → (Nat → Option EO) → Tok → Prop) (T : List EV) (H : Nat → Option EO) : Prop := opK0 P k id ok (fun v H => K v H .on) T H
def FzT (_ : Tok) (P : Program) (k : EK) (d : List Nat) (id : Nat) (ok : Nat → Prop) (K : EV → (Nat → Option EO) → Tok → Prop) (T : List EV) (H : Nat → Option EO) : Prop := (∀ o ∈ d, ok o) ∧ opK0 P k id ok (fun v H => K v H .on) (T.map (fzMV H d)) (rmv H d)
def anyO : Nat → Prop := fun _ => True
attribute [simp] anyO
theorem chain0_iff {P : Program} {n : Nat} {K : List EV → (Nat → Option EO) → Prop} : ∀ {l : List EOp} {lg : List (Nat × List Nat)} {T : List EV} {H : Nat → Option EO}, (∀ e ∈ l, e.uz = []) → (chain P n l lg K T H ↔ chain0 P n l K T H)
 | [], _, _, _, _ => Iff.rfl
 | e :: r, lg, T, H, hl => by
  have he := hl e (List.mem_cons_self ..)
  have hr := fun x hx => hl x (List.mem_cons_of_mem _ hx)
  simp only [chain, opT, chain0]
  cases gdOK e.gd T with
  | none => exact Iff.rfl
  | some t =>
   cases t
   ·exact chain0_iff (l := r) hr
   ·exact ⟨opK.mono (fun i _ => trivial) (fun _ _ h => (chain0_iff (l := r) hr).1 h), opK.mono (fun i _ => by simp [Wok, he]) (fun _ _ h => (chain0_iff (l := r) hr).2 h)⟩
section
variable {P : Program} {m n : Nat}
@[simp] theorem ew_skip (Q : Exit → St → Tok → Prop) (s : St) : ewT .on P m .skip Q s = Q .normal s .on := Eq.trans rfl rfl
@[simp] theorem ew_reg (l : List EOp) (k : Nat) (Q : Exit → St → Tok → Prop) (T : List EV) (H : Nat → Option EO) : ewT .on P m (.reg l k) Q ⟨T, H, n⟩ = match l.all fun e => e.uz.isEmpty with
  | true => c0T .on P n l (fun T H t => Q .normal ⟨T, H, n + 16 * k⟩ t) T H
  | false => chT .on P n l [] (fun T H t => Q .normal ⟨T, H, n + 16 * k⟩ t) T H := by
 split
 ·rename_i h
  have : ∀ e ∈ l, e.uz = [] := by simpa using h
  exact propext (chain0_iff this)
 ·rfl
@[simp] theorem ew_seq (a b : EB) (Q : Exit → St → Tok → Prop) (s : St) : ewT .on P m (.seq a b) Q s = ewT .on P m a (fun e s' t => match e with | .normal => ewT t P m b Q s' | e => Q e s' t) s := by
 simp only [ewT, ew]
 congr
 try (funext e s'; cases e <;> rfl)
@[simp] theorem ew_cond (c : Opd) (a b : EB) (Q : Exit → St → Tok → Prop) (T : List EV) (H : Nat → Option EO) : ewT .on P m (.cond c a b) Q ⟨T, H, n⟩ = need (asLit (ev T c)) fun v _ => need (asB v) fun t _ => Alt (t = true) (fun t => ewT t P m a Q ⟨T, H, n⟩) (fun t => ewT t P m b Q ⟨T, H, n⟩) := by
 simp only [ewT, ew]
 cases h : asLit (ev T c) with
 | none => simp
 | some v =>
  cases v <;> simp [asB]
  rename_i t
  cases t <;> simp
@[simp] theorem ew_block (id : Nat) (b : EB) (Q : Exit → St → Tok → Prop) (s : St) : ewT .on P m (.block id b) Q s = ewT .on P m b (fun e s' t => match e with | .exit i => if i = id then Q .normal s' t else Q (.exit i) s' t | e => Q e s' t) s := by
 simp only [ewT, ew]
 congr
 try (funext e s'; cases e <;> rfl)
@[simp] theorem ew_loop (b : EB) (Q : Exit → St → Tok → Prop) (s : St) : ewT .on P m (.loop b) Q s = LoopT P m b Q s := Eq.trans rfl rfl
@[simp] theorem ew_exit (id : Nat) (Q : Exit → St → Tok → Prop) (s : St) : ewT .on P m (.exit id) Q s = Q (.exit id) s .on := Eq.trans rfl rfl
@[simp] theorem ew_bot (Q : Exit → St → Tok → Prop) (s : St) : ewT .on P m .bot Q s = False := Eq.trans rfl rfl
@[simp] theorem ew_ret (Q : Exit → St → Tok → Prop) (s : St) : ewT .on P m .ret Q s = Q .ret s .on := Eq.trans rfl rfl
@[simp] theorem c0_nil (K : List EV → (Nat → Option EO) → Tok → Prop) (T : List EV) (H : Nat → Option EO) : c0T .on P n [] K T H = K T H .on := Eq.trans rfl rfl
@[simp] theorem c0_cons0 (i : Nat) (dst : Option Nat) (k : EK) (uz : List Nat) (r : List EOp) (K : List EV → (Nat → Option EO) → Tok → Prop) (T : List EV) (H : Nat → Option EO) :
  c0T .on P n (⟨i, dst, none, k, uz⟩ :: r) K T H = opT' .on P k (n + 16 * i) anyO (fun v H' t => c0T t P n r K (setD T dst v) H') T H := Eq.trans rfl rfl
@[simp] theorem c0_cons1 (i : Nat) (dst : Option Nat) (g : Nat × Bool) (k : EK) (uz : List Nat) (r : List EOp) (K : List EV → (Nat → Option EO) → Tok → Prop) (T : List EV) (H : Nat → Option EO) :
  c0T .on P n (⟨i, dst, some g, k, uz⟩ :: r) K T H = need (gdOK (some g) T) fun b _ => Alt (b = true) (fun t => opT' t P k (n + 16 * i) anyO (fun v H' t => c0T t P n r K (setD T dst v) H') T H) (fun t => c0T t P n r K (setD T dst (.tup [])) H) := by
 simp only [c0T, chain0]
 cases gdOK (some g) T with
 | none => simp
 | some t => cases t <;> simp [opT'] <;> rfl
@[simp] theorem ch_nil (lg : List (Nat × List Nat)) (K : List EV → (Nat → Option EO) → Tok → Prop) (T : List EV) (H : Nat → Option EO) : chT .on P n [] lg K T H = K T H .on := Eq.trans rfl rfl
@[simp] theorem ch_cons0 (i : Nat) (dst : Option Nat) (k : EK) (uz : List Nat) (r : List EOp) (lg : List (Nat × List Nat)) (K : List EV → (Nat → Option EO) → Tok → Prop) (T : List EV) (H : Nat → Option EO) :
  chT .on P n (⟨i, dst, none, k, uz⟩ :: r) lg K T H = opT' .on P k (n + 16 * i) (Wok lg uz) (fun v H' t => chT t P n r ((i, k.looks T) :: lg) K (setD T dst v) H') T H := Eq.trans rfl rfl
@[simp] theorem ch_cons1 (i : Nat) (dst : Option Nat) (g : Nat × Bool) (k : EK) (uz : List Nat) (r : List EOp) (lg : List (Nat × List Nat)) (K : List EV → (Nat → Option EO) → Tok → Prop) (T : List EV) (H : Nat → Option EO) :
  chT .on P n (⟨i, dst, some g, k, uz⟩ :: r) lg K T H = need (gdOK (some g) T) fun b _ => Alt (b = true) (fun t => opT' t P k (n + 16 * i) (Wok lg uz) (fun v H' t => chT t P n r ((i, k.looks T) :: lg) K (setD T dst v) H') T H) (fun t => chT t P n r ((i, k.looks T) :: lg) K (setD T dst (.tup [])) H) := by
 simp only [chT, chain, opT]
 cases gdOK (some g) T with
 | none => simp
 | some t => cases t <;> simp [opT']
variable {id : Nat} {ok : Nat → Prop} {K : EV → (Nat → Option EO) → Tok → Prop} {T : List EV} {H : Nat → Option EO}
@[simp] theorem opK_q (q : QOp) : opT' .on P (.q q) id ok K T H = need (evQ q T H id) fun r t => K r.1 (addO H id r.2) t := by
 simp only [opT', opK, opK0]
 cases evQ q T H id with
 | none => simp
 | some r => simp
@[simp high] theorem opK_pick (c a b : Opd) : opT' .on P (.q (.pick c a b)) id ok K T H = need (asLit (ev T c)) fun v _ => need (asB v) fun t _ => Alt (t = true) (fun t => K (ev T a) H t) (fun t => K (ev T b) H t) := by
 simp only [opT', opK, opK0, evQ]
 cases h : asLit (ev T c) with
 | none => simp
 | some v =>
  cases v <;> simp [asB]
  rename_i t
  cases t <;> simp [addO]
@[simp] theorem opK_sto (k : Nat) (p x : Opd) : opT' .on P (.sto k p x) id ok K T H = need (asC (ev T p)) fun pc _ => need (asCells (ev T x)) fun cs _ => need (stoAt H pc cs) fun r t => cs.length = k ∧ ok r.1 ∧ K (.tup []) (upd H r.1 (some r.2)) t := by
 simp only [opT', opK, opK0]
 cases asC (ev T p) with
 | none => simp
 | some pc =>
  cases asCells (ev T x) with
  | none => simp
  | some cs =>
   simp only [need_some]
   cases stoAt H pc cs with
   | none => simp
   | some r => simp
@[simp] theorem opK_app (ty : TypeId) (es bytes : Nat) (s x : Opd) : opT' .on P (.app ty es bytes s x) id ok K T H = need (asC (ev T s)) fun sc _ => need (asC (ev T x)) fun xc _ => need (baseOf H ty es sc) fun r _ => need (elems2 H es xc) fun ys t =>
  ((slcE sc = true → ys ≠ []) ∧ r.2.length + ys.length ≤ 9223372036854775807 ∧ (r.2.length + ys.length) * bytes ≤ 140737488355328) ∧ (∀ o, r.1 = some o → ok o) ∧ K (.v (.c (.row id (r.2.length + ys.length)))) (upd (dropO H r.1) id (some (.row ty es (r.2 ++ ys)))) t := by
 simp only [opT', opK, opK0]
 cases asC (ev T s) with
 | none => simp
 | some sc =>
  cases asC (ev T x) with
  | none => simp
  | some xc =>
   simp only [need_some]
   cases baseOf H ty es sc with
   | none => simp
   | some r =>
    cases elems2 H es xc with
    | none => simp
    | some ys => simp
@[simp] theorem opK_cpy (es : Nat) (d s : Opd) : opT' .on P (.cpy es d s) id ok K T H = need (asC (ev T d)) fun dc _ => need (asC (ev T s)) fun xc _ => need (elems2 H es xc) fun ys _ => need (cpyAt H es dc ys) fun r t => ok r.1 ∧ K (.lit (.int .i64 (r.2.2 : Int))) (upd H r.1 (some r.2.1)) t := by
 simp only [opT', opK, opK0]
 cases asC (ev T d) with
 | none => simp
 | some dc =>
  cases asC (ev T s) with
  | none => simp
  | some xc =>
   simp only [need_some]
   cases elems2 H es xc with
   | none => simp
   | some ys =>
    simp only [need_some]
    cases cpyAt H es dc ys with
    | none => simp
    | some r => simp
@[simp] theorem opK_call (f : FuncId) (args : List Opd) : opT' .on P (.call f args) id ok K T H = ECall P f (args.map (ev T)) H id ok K := Eq.trans rfl rfl
@[simp] theorem opK_clo (x : Opd) (args : List Opd) : opT' .on P (.clo x args) id ok K T H = need (asC (ev T x)) fun c _ => need (asClo c) fun r _ => bodyOK P r.1 = true ∧ ECall P r.1 (args.map (ev T) ++ r.2.map fun p => .v (.c (.ptr p.1 p.2))) H id ok K := by
 simp only [opT', opK, opK0]
 cases asC (ev T x) with
 | none => simp
 | some c => cases c <;> simp [asClo, ECall]
@[simp] theorem opK_nild (neg : Bool) (x : Opd) : opT' .on P (.nild neg x) id ok K T H = need (asC (ev T x)) fun c _ => need (nilLen H c) fun n _ => Both (n = 0) (isNil c = false) (fun t => K (.lit (.bool !neg)) H t) (fun t => K (.lit (.bool neg)) H t) := by
 simp only [opT', opK, opK0]
 cases asC (ev T x) with
 | none => simp
 | some c =>
  simp only [need_some]
  cases nilLen H c with
  | none => simp
  | some n => simp [Both]
@[simp] theorem opK_fz (k : EK) : opT' .on P (.fz k) id ok K T H = FzT .on P k (deadK k T H) id ok K T H := Eq.trans rfl rfl
@[simp] theorem FzT_nil (k : EK) : FzT .on P k [] id ok K T H = opZ .on P k id ok K T H := by
 have h1 : ∀ c, fzM H [] c = c := by
  intro c; cases c <;> simp [fzM]
 have h2 : ∀ t, fzMT H [] t = t := by
  intro t
  cases t with
  | c x => simp [fzMT, h1]
  | agg cs => simp only [fzMT]; congr 1; rw [List.map_congr_left (g := fun c => c) (fun c _ => h1 c)]; simp
 have h3 : ∀ e, fzMV H [] e = e := by
  intro e
  cases e with
  | v t => simp [fzMV, h2]
  | tup ts => simp only [fzMV]; congr 1; rw [List.map_congr_left (g := fun c => c) (fun c _ => h2 c)]; simp
  | any => rfl
 have h4 : T.map (fzMV H []) = T := by rw [List.map_congr_left (g := fun c => c) (fun c _ => h3 c)]; simp
 have h5 : rmv H [] = H := by funext o; simp [rmv]
 simp [FzT, h4, h5, opZ]
@[simp] theorem FzT_cons (k : EK) (o : Nat) (d : List Nat) : FzT .on P k (o :: d) id ok K T H = ((∀ i ∈ o :: d, ok i) ∧ opZ .on P k id ok K (T.map (fzMV H (o :: d))) (rmv H (o :: d))) := Eq.trans rfl rfl
@[simp] theorem opZ_q (q : QOp) : opZ .on P (.q q) id ok K T H = opT' .on P (.q q) id ok K T H := Eq.trans rfl rfl
@[simp] theorem opZ_sto (n : Nat) (p x : Opd) : opZ .on P (.sto n p x) id ok K T H = opT' .on P (.sto n p x) id ok K T H := Eq.trans rfl rfl
@[simp] theorem opK_mrk (x : Opd) : opT' .on P (.mrk x) id ok K T H = need (asC (ev T x)) fun c _ => need (rowOf H c) fun r t => ok r.1 ∧ K (.v (.c (.fz (.sl 1 r.2)))) (upd H r.1 none) t := by
 simp only [opT', opK, opK0]
 cases asC (ev T x) with
 | none => simp
 | some c =>
  simp only [need_some]
  cases rowOf H c with
  | none => simp
  | some n => simp
@[simp] theorem opK_mpnew (rs : List (Nat × IntKind)) : opT' .on P (.mp (.new rs) []) id ok K T H = K (.v (.c (.mp id))) (upd H id (some (.mp rs []))) .on := Eq.trans rfl rfl
@[simp] theorem opK_mplen (x : Opd) : opT' .on P (.mp .len [x]) id ok K T H = need (asC (ev T x)) fun c _ => need (mpOf H c) fun r t => K (.lit (.int .i64 (r.2.2.length : Int))) H t := by
 simp only [opT', opK, opK0, opM]
 cases asC (ev T x) with
 | none => simp
 | some c =>
  simp only [need_some, Option.bind_some]
  cases mpOf H c with
  | none => simp
  | some n => simp
@[simp] theorem opK_mpent (rs : List (Nat × IntKind)) (zq : IntKind) (x k : Opd) : opT' .on P (.mp (.ent rs zq) [x, k]) id ok K T H = need (asC (ev T x)) fun c _ => need (mpOf H c) fun r _ => need (asAg (ev T k)) fun cs _ => need (litK (unrle rs) cs) fun ks t => ok r.1 ∧ r.2.1 = rs ∧ K (.tup [.c (.fz (.lit (getM (.int zq 0) ks r.2.2))), .c (.fz (.lit (.int .i64 (idxM ks r.2.2 : Int))))]) (upd H r.1 (some (.mp rs (entM (.int zq 0) ks r.2.2)))) t := by
 simp only [opT', opK, opK0, opM]
 cases asC (ev T x) with
 | none => simp
 | some c =>
  simp only [need_some, Option.bind_some]
  cases mpOf H c with
  | none => simp
  | some r =>
   simp only [need_some]
   cases asAg (ev T k) with
   | none => simp
   | some cs =>
    simp only [need_some, Option.bind_some]
    cases litK (unrle rs) cs with
    | none => simp
    | some ks => simp
@[simp] theorem opK_mpsto (x s v : Opd) : opT' .on P (.mp .sto [x, s, v]) id ok K T H = need (asC (ev T x)) fun c _ => need (mpOf H c) fun r _ => need (asLit (ev T s)) fun w _ => need (isNum w) fun n _ => need (asLit (ev T v)) fun u t => ok r.1 ∧ (0 ≤ n ∧ n.toNat < r.2.2.length) ∧ K (.tup []) (upd H r.1 (some (.mp r.2.1 (putM n.toNat u r.2.2)))) t := by
 simp only [opT', opK, opK0, opM]
 cases asC (ev T x) with
 | none => simp
 | some c =>
  simp only [need_some, Option.bind_some]
  cases mpOf H c with
  | none => simp
  | some r =>
   simp only [need_some]
   cases asLit (ev T s) with
   | none => simp
   | some w =>
    simp only [need_some, Option.bind_some]
    cases isNum w with
    | none => simp
    | some n =>
     simp only [need_some]
     cases asLit (ev T v) with
     | none => simp
     | some u => simp
@[simp] theorem Wok_nil (lg : List (Nat × List Nat)) (i : Nat) : Wok lg [] i = True := by simp [Wok]
end
def hid {α : Type} (f : Unit → α) : α := f ()
def clr (e : EOp) : EOp := ⟨e.i, e.dst, e.gd, e.k, []⟩
def reg0 (l : List EOp) (n : Nat) : EB := .reg (l.map clr) n
theorem chain0_clr (P : Program) (n : Nat) (K : List EV → (Nat → Option EO) → Prop) : ∀ (l : List EOp) (T : List EV) (H : Nat → Option EO), chain0 P n (l.map clr) K T H = chain0 P n l K T H
 | [], _, _ => rfl
 | e :: r, T, H => by
  simp only [List.map_cons, chain0, clr]
  cases gdOK e.gd T with
  | none => rfl
  | some t =>
   cases t
   ·exact chain0_clr P n K r _ _
   ·simp only [chain0_clr P n K r]
def reg1 (l : List EOp) (n : Nat) : EB := .reg l n
section
variable {P : Program} {m n : Nat}
@[simp] theorem ew_hid (f : Unit → EB) (Q : Exit → St → Tok → Prop) (s : St) : ewT .on P m (hid f) Q s = ewT .on P m (f ()) Q s := Eq.trans rfl rfl
@[simp] theorem ew_reg0 (l : List EOp) (k : Nat) (Q : Exit → St → Tok → Prop) (T : List EV) (H : Nat → Option EO) : ewT .on P m (reg0 l k) Q ⟨T, H, n⟩ = c0T .on P n l (fun T H t => Q .normal ⟨T, H, n + 16 * k⟩ t) T H := by
 have h1 := ew_reg (P := P) (m := m) (n := n) (l.map clr) k Q T H
 have h2 : ((l.map clr).all fun e => e.uz.isEmpty) = true := by simp [clr]
 rw [h2] at h1
 refine h1.trans ?_
 exact chain0_clr P n _ l T H
@[simp] theorem ew_reg1 (l : List EOp) (k : Nat) (Q : Exit → St → Tok → Prop) (T : List EV) (H : Nat → Option EO) : ewT .on P m (reg1 l k) Q ⟨T, H, n⟩ = chT .on P n l [] (fun T H t => Q .normal ⟨T, H, n + 16 * k⟩ t) T H := Eq.trans rfl rfl
@[simp] theorem c0_hid (f : Unit → List EOp) (K : List EV → (Nat → Option EO) → Tok → Prop) (T : List EV) (H : Nat → Option EO) : c0T .on P n (hid f) K T H = c0T .on P n (f ()) K T H := Eq.trans rfl rfl
@[simp] theorem ch_hid (f : Unit → List EOp) (lg : List (Nat × List Nat)) (K : List EV → (Nat → Option EO) → Tok → Prop) (T : List EV) (H : Nat → Option EO) : chT .on P n (hid f) lg K T H = chT .on P n (f ()) lg K T H := Eq.trans rfl rfl
end
def ibit (op : BinOp) (k : IntKind) (a b : Int) : Int := match op with
 | .and => k.wrap (BitVec.ofInt k.bits a &&& BitVec.ofInt k.bits b).toNat
 | .or => k.wrap (BitVec.ofInt k.bits a ||| BitVec.ofInt k.bits b).toNat
 | .xor => k.wrap (BitVec.ofInt k.bits a ^^^ BitVec.ofInt k.bits b).toNat
 | _ => k.wrap (BitVec.ofInt k.bits a &&& ~~~BitVec.ofInt k.bits b).toNat
def ishl (k : IntKind) (a b : Int) : Int := k.wrap (a * 2 ^ min b.toNat k.bits)
def ishr (k : IntKind) (a b : Int) : Int := a.fdiv (2 ^ min b.toNat k.bits)
section
variable (k k' : IntKind) (a b : Int)
@[simp] theorem pbin_add : pbin .add (.int k a) (.int k b) = some (.int k (k.wrap (a + b))) := by simp [pbin, pint]
@[simp] theorem pbin_sub : pbin .sub (.int k a) (.int k b) = some (.int k (k.wrap (a - b))) := by simp [pbin, pint]
@[simp] theorem pbin_mul : pbin .mul (.int k a) (.int k b) = some (.int k (k.wrap (a * b))) := by simp [pbin, pint]
@[simp] theorem pbin_quo : pbin .quo (.int k a) (.int k b) = if b = 0 then none else some (.int k (k.wrap (a.tdiv b))) := by simp [pbin, pint]
@[simp] theorem pbin_rem : pbin .rem (.int k a) (.int k b) = if b = 0 then none else some (.int k (a.tmod b)) := by simp [pbin, pint]
@[simp] theorem pbin_and : pbin .and (.int k a) (.int k b) = some (.int k (ibit .and k a b)) := by simp only [pbin, pint, ibit, if_true]
@[simp] theorem pbin_or : pbin .or (.int k a) (.int k b) = some (.int k (ibit .or k a b)) := by simp only [pbin, pint, ibit, if_true]
@[simp] theorem pbin_xor : pbin .xor (.int k a) (.int k b) = some (.int k (ibit .xor k a b)) := by simp only [pbin, pint, ibit, if_true]
@[simp] theorem pbin_andNot : pbin .andNot (.int k a) (.int k b) = some (.int k (ibit .andNot k a b)) := by simp only [pbin, pint, ibit, if_true]
@[simp] theorem pbin_eql : pbin .eql (.int k a) (.int k b) = some (.bool (decide (a = b))) := by simp [pbin, pint]
@[simp] theorem pbin_neq : pbin .neq (.int k a) (.int k b) = some (.bool (decide (a ≠ b))) := by simp [pbin, pint]
@[simp] theorem pbin_lss : pbin .lss (.int k a) (.int k b) = some (.bool (decide (a < b))) := by simp [pbin, pint]
@[simp] theorem pbin_leq : pbin .leq (.int k a) (.int k b) = some (.bool (decide (a ≤ b))) := by simp [pbin, pint]
@[simp] theorem pbin_gtr : pbin .gtr (.int k a) (.int k b) = some (.bool (decide (b < a))) := by simp [pbin, pint]
@[simp] theorem pbin_geq : pbin .geq (.int k a) (.int k b) = some (.bool (decide (b ≤ a))) := by simp [pbin, pint]
@[simp] theorem pbin_shl : pbin .shl (.int k a) (.int k' b) = if b < 0 then none else some (.int k (ishl k a b)) := by simp [pbin, psh, ishl]
@[simp] theorem pbin_shr : pbin .shr (.int k a) (.int k' b) = if b < 0 then none else some (.int k (ishr k a b)) := by simp [pbin, psh, ishr]
end
@[simp] theorem pbin_seql (x y : ByteArray) : pbin .eql (.string x) (.string y) = some (.bool (decide (x.toList = y.toList))) := Eq.trans rfl rfl
@[simp] theorem pbin_sneq (x y : ByteArray) : pbin .neq (.string x) (.string y) = some (.bool (decide (x.toList ≠ y.toList))) := Eq.trans rfl rfl
@[simp] theorem pbin_slss (x y : ByteArray) : pbin .lss (.string x) (.string y) = some (.bool (Op.bytesLess x.toList y.toList)) := Eq.trans rfl rfl
end Go.EW
namespace Go.EW
def b8 (n : Nat) : UInt8 := UInt8.ofNat n
theorem b8_nat (n : Nat) : (b8 n).toNat = n % 256 := by simp [b8]
def be : Nat → Nat → List UInt8
 | 0, _ => []
 | r + 1, n => b8 (n / 256 ^ r) :: be r n
theorem be_len (r n : Nat) : (be r n).length = r := by induction r <;> simp [be, *]
def nb (n : Nat) : Nat := if n = 0 then 0 else n.log2 / 8 + 1
def dg (n : Nat) : List UInt8 := be (nb n) n
theorem dg_len (n : Nat) : (dg n).length = nb n := be_len _ _
def IsLen (n r : Nat) : Prop := n < 2 ^ r ∧ (r = 0 ∨ 2 ^ (r - 1) ≤ n)
theorem isLen_nb {n r : Nat} (h : IsLen n r) : (r + 7) / 8 = nb n := by
 obtain ⟨h1, h2⟩ := h
 unfold nb
 split
 ·rename_i hn
  subst hn
  rcases h2 with rfl | h2
  ·rfl
  ·have := Nat.pow_pos (n := r - 1) (show 0 < 2 by omega)
   omega
 ·rename_i hn
  rcases h2 with rfl | h2
  ·simp at h1; omega
  ·have hr : 0 < r := by
    rcases Nat.eq_zero_or_pos r with h | h
    ·subst h; simp at h1; omega
    ·exact h
   have q1 : n.log2 < r := (Nat.log2_lt hn).2 h1
   have q2 : r - 1 ≤ n.log2 := (Nat.le_log2 hn).2 h2
   have : n.log2 = r - 1 := by omega
   rw [this]
   omega
theorem nb_lt (n : Nat) : n < 256 ^ nb n := by
 unfold nb
 split
 ·rename_i h; subst h; simp
 ·rename_i h
  have h1 : n < 2 ^ (n.log2 + 1) := Nat.lt_log2_self
  have h2 : 256 ^ (n.log2 / 8 + 1) = 2 ^ (8 * (n.log2 / 8 + 1)) := by rw [Nat.pow_mul]
  rw [h2]
  exact Nat.lt_of_lt_of_le h1 (Nat.pow_le_pow_right (by omega) (by omega))
theorem nb_le {n : Nat} (h : 0 < n) : 256 ^ (nb n - 1) ≤ n := by
 unfold nb
 rw [if_neg (by omega)]
 have h1 : 2 ^ n.log2 ≤ n := Nat.log2_self_le (by omega)
 have h2 : 256 ^ (n.log2 / 8 + 1 - 1) = 2 ^ (8 * (n.log2 / 8)) := by rw [Nat.add_sub_cancel, Nat.pow_mul]
 rw [h2]
 exact Nat.le_trans (Nat.pow_le_pow_right (by omega) (by omega)) h1
theorem nb_zero : nb 0 = 0 := rfl
theorem nb_8 {n : Nat} (h : n < 18446744073709551616) : nb n ≤ 8 := by
 rcases Nat.eq_zero_or_pos n with rfl | h0
 ·simp [nb_zero]
 ·have h1 := nb_le h0
  apply Classical.byContradiction
  intro h2
  have h3 : 256 ^ 8 ≤ 256 ^ (nb n - 1) := Nat.pow_le_pow_right (by omega) (by omega)
  have h4 : (256 : Nat) ^ 8 = 18446744073709551616 := by decide
  omega
theorem nb_uniq {n r : Nat} (h1 : n < 256 ^ (r + 1)) (h2 : 256 ^ r ≤ n) : nb n = r + 1 := by
 have hn : n ≠ 0 := by have := Nat.pow_pos (n := r) (show 0 < 256 by omega); omega
 have q1 := nb_lt n
 have q2 := nb_le (n := n) (by omega)
 have q3 : r < nb n := by
  apply Classical.byContradiction; intro h
  have := Nat.pow_le_pow_right (show 0 < 256 by omega) (show nb n ≤ r by omega)
  omega
 have q4 : nb n - 1 < r + 1 := by
  apply Classical.byContradiction; intro h
  have := Nat.pow_le_pow_right (show 0 < 256 by omega) (show r + 1 ≤ nb n - 1 by omega)
  omega
 omega
theorem nb_step {n : Nat} (hn : n ≠ 0) : nb n = nb (n / 256) + 1 := by
 rcases Nat.eq_zero_or_pos (n / 256) with h | h
 ·rw [h]
  have : nb 0 = 0 := rfl
  rw [this]
  exact nb_uniq (by omega) (by omega)
 ·have q1 := nb_lt (n / 256)
  have q2 := nb_le (n := n / 256) (by omega)
  have h0 : 0 < nb (n / 256) := by
   apply Classical.byContradiction; intro h'
   have : nb (n / 256) = 0 := by omega
   rw [this] at q1; simp at q1; omega
  refine nb_uniq ?_ ?_
  ·rw [Nat.pow_succ]; exact (Nat.div_lt_iff_lt_mul (by omega)).1 q1
  ·have : nb (n / 256) = nb (n / 256) - 1 + 1 := by omega
   rw [this, Nat.pow_succ]; exact (Nat.le_div_iff_mul_le (by omega)).1 q2
theorem be_snoc (r n : Nat) : be (r + 1) n = be r (n / 256) ++ [b8 n] := by
 induction r with
 | zero => simp [be]
 | succ r ih =>
  have e : n / 256 / 256 ^ r = n / 256 ^ (r + 1) := by rw [Nat.div_div_eq_div_mul, Nat.pow_succ, Nat.mul_comm]
  rw [be, ih, be, e, List.cons_append]
theorem dg_zero : dg 0 = [] := rfl
theorem dg_step {n : Nat} (hn : n ≠ 0) : dg n = dg (n / 256) ++ [b8 n] := by
 rw [dg, nb_step hn, be_snoc, dg]
theorem isLen_shift {n k r : Nat} (h : IsLen (n / 2 ^ k) r) (h0 : n / 2 ^ k ≠ 0) : IsLen n (k + r) := by
 obtain ⟨h1, h2⟩ := h
 have hk := Nat.pow_pos (n := k) (show 0 < 2 by omega)
 have hr : 0 < r := by
  rcases Nat.eq_zero_or_pos r with h | h
  ·subst h; rw [Nat.pow_zero] at h1; exact absurd (Nat.lt_one_iff.1 h1) h0
  ·exact h
 refine ⟨?_, .inr ?_⟩
 ·rw [Nat.pow_add, Nat.mul_comm]
  exact (Nat.div_lt_iff_lt_mul hk).1 h1
 ·have h2 := h2.resolve_left (by omega)
  rw [show k + r - 1 = k + (r - 1) by omega, Nat.pow_add, Nat.mul_comm]
  exact (Nat.le_div_iff_mul_le hk).1 h2
def lenTab (f : Nat → Option UInt8) : Bool := (List.range 256).all fun i => match f i with
 | some r => decide (i < 2 ^ r.toNat) && (r.toNat == 0 || decide (2 ^ (r.toNat - 1) ≤ i)) && decide (r.toNat ≤ 8)
 | none => false
theorem lenTab_spec {f : Nat → Option UInt8} (h : lenTab f = true) {i : Nat} (hi : i < 256) : ∃ r : UInt8, f i = some r ∧ IsLen i r.toNat ∧ r.toNat ≤ 8 := by
 have h1 := List.all_eq_true.1 h i (List.mem_range.2 hi)
 split at h1
 ·rename_i r hr
  simp only [Bool.and_eq_true, Bool.or_eq_true, decide_eq_true_eq, beq_iff_eq] at h1
  exact ⟨r, hr, ⟨h1.1.1, h1.1.2⟩, h1.2⟩
 ·simp at h1
end Go.EW
namespace Go.EW
open Go
attribute [simp] gdOK evQ ev nth cst asLit asC asAg asCells setD EV.lit litc addO EK.looks QOp.looks isNum lenOf frz frzAll putAt putParts setParts bnd lits capsOf eqpv notNil cellsAt cellsAtN cellsRun gptr gcells elemsF elemsOf elems2 baseF baseOf slcE boolsOf stoAt cpyAt dropO intsOf intS2 bytesOf nilLen nilF isNil rowOf strB mpOf
attribute [simp] deadK dataK rowsV rowsE isRow fzM fzMT fzMV rmv
attribute [simp] conArgs conV conC conAll strC strAll strO objsIn idx capsIn fzV fzC noSlV noSlT noSlC noSlO noSlF renV renT renC renO ofL reach stepR refsAt refsV refsT refsC refsO Wok
attribute [simp] List.getElem?_cons_zero
@[simp] theorem eqiv_nil : eqiv .nilIface = some true := rfl
@[simp] theorem eqiv_iface (t : TypeId) (v : Value) : eqiv (.iface t v) = some false := rfl
@[simp] theorem upd_at {α : Type} (f : Nat → α) (i : Nat) (v : α) (j : Nat) : upd f i v j = if j = i then v else f j := rfl
@[simp] theorem after_at (H : Nat → Option EO) (ids : List Nat) (base : Nat) (H' : List (Option EO)) (o : Nat) : after H ids base H' o =
  match idx ids o with
  | some j => (ofO H' j).map (renO (rnm ids base))
  | none => if base ≤ o ∧ o < base + (H'.length - ids.length) then (ofO H' (ids.length + (o - base))).map (renO (rnm ids base)) else H o := rfl
@[simp] theorem after_none (H : Nat → Option EO) (base : Nat) : after H [] base [] = H := by
 funext o
 simp [after]
 omega
@[simp] theorem ofO_at (H : List (Option EO)) (i : Nat) : ofO H i = (H[i]?).getD none := rfl
@[simp] theorem rnm_at (ids : List Nat) (base j : Nat) : rnm ids base j = (ids[j]?).getD (base + (j - ids.length)) := rfl
theorem le_ok {a b : Nat} (h : Nat.ble a b = true) : a ≤ b := Nat.le_of_ble_eq_true h
theorem call0 {P : Program} {f : FuncId} {args args' : List EV} {H : Nat → Option EO} {base : Nat} {ok : Nat → Prop} {K : EV → (Nat → Option EO) → Tok → Prop} {post : EV → List (Option EO) → Prop}
  (h : ECalls P f args' [] post) (hcon : conArgs H [] args = some args') (hk : ∀ y H', post y H' → (args.flatMap (fzV []) = [] ∨ (noSlV y = true ∧ ∀ x, some x ∈ H' → noSlO x = true)) ∧ H'.length ≤ 16 ∧ K (renV (rnm [] base) y) (after H [] base H') .on) : ECall P f args H base ok K :=
 ⟨[], args', [], post, hcon, rfl, List.nodup_nil, by simp, by simp, h, fun y H' hp => ⟨⟨(hk y H' hp).1, by simpa using (hk y H' hp).2.1⟩, (hk y H' hp).2.2⟩⟩
theorem callH {P : Program} {f : FuncId} {args args' : List EV} {H : Nat → Option EO} {base : Nat} {ok : Nat → Prop} {K : EV → (Nat → Option EO) → Tok → Prop} {post : EV → List (Option EO) → Prop} (ids : List Nat) {Hc : List EO}
  (h : ECalls P f args' Hc post) (hcon : conArgs H ids args = some args') (hin : objsIn H ids ids = some Hc) (hnd : ids.Nodup) (hre : ∀ i ∈ ids, i ∈ reach H (args.flatMap refsV)) (hok : ∀ i ∈ ids, ok i)
  (hk : ∀ y H', post y H' → (args.flatMap (fzV ids) = [] ∨ (noSlV y = true ∧ ∀ x, some x ∈ H' → noSlO x = true)) ∧ H'.length ≤ ids.length + 16 ∧ K (renV (rnm ids base) y) (after H ids base H') .on) : ECall P f args H base ok K :=
 ⟨ids, args', Hc, post, hcon, hin, hnd, hre, fun i hi => .inl (hok i hi), h, fun y H' hp => ⟨⟨(hk y H' hp).1, (hk y H' hp).2.1⟩, (hk y H' hp).2.2⟩⟩
theorem ecalls {P : Program} {f : FuncId} {c : EB × List QOp × Nat} {args : List EV} {H : List EO} {post : EV → List (Option EO) → Prop}
  (hc : cfun P f = some c) (h : ewT .on P H.length c.1 (fun e s _ => FinQ H.length c.2.1 post e s) ⟨args ++ List.replicate (c.2.2 - args.length) (.tup []), ofL H, H.length⟩) : ECalls P f args H post :=
 ecalls_cfun (b := c.1) (qs := c.2.1) (nt := c.2.2) hc h
theorem fin {m : Nat} {qs : List QOp} {post : EV → List (Option EO) → Prop} {s : St} (more : List Nat) {v y : EV} {H' : List (Option EO)} (hnd : (List.range m ++ more).Nodup) (hv : resV s.T s.H qs = some v) (hcon : conR s.H (List.range m ++ more) v = some y)
  (hout : objsOut s.H (List.range m ++ more) (List.range m ++ more) = some H') (hp : post y H') : FinQ m qs post .ret s :=
 ⟨s, Weak.refl s, more, v, y, H', hnd, hv, hcon, hout, hp⟩
@[simp] abbrev xA : EV := .any
theorem fin0 {m : Nat} {qs : List QOp} {post : EV → List (Option EO) → Prop} {s : St} {v y : EV} {H' : List (Option EO)} (hnd : (List.range m ++ []).Nodup := by decide) (hv : resV s.T s.H qs = some v := by rfl) (hcon : conR s.H (List.range m ++ []) v = some y := by rfl)
  (hout : objsOut s.H (List.range m ++ []) (List.range m ++ []) = some H' := by rfl) (hp : post y H' := by exact ⟨rfl, rfl⟩) : FinQ m qs post .ret s := fin [] hnd hv hcon hout hp
theorem finW {m : Nat} {qs : List QOp} {post : EV → List (Option EO) → Prop} {s : St} (s' : St) (hw : Weak m s s') (h : FinQ m qs post .ret s') : FinQ m qs post .ret s := by
 obtain ⟨s'', h1, h2⟩ := h
 exact ⟨s'', hw.trans h1, h2⟩
theorem weak_nil {m n o k : Nat} {T : List EV} {H : Nat → Option EO} {tb ty es : Nat} {cells : List EC} (ho : H o = some (.box tb cells)) (hc : cells[k]? = some (.fz (.lit (.slice none 0 0)))) (he : 0 < es) :
  Weak m ⟨T, H, n⟩ ⟨T, upd (upd H o (some (.box tb (cells.set k (.row n 0))))) n (some (.row ty es [])), n + 1⟩ := by
 rintro w0 ρ0 Φ0 a w ⟨⟨X, rfl, r, hall, hd, hU⟩, hm⟩
 have hn : ¬ X.U n := fun h => Nat.lt_irrefl _ (hU n h)
 have hon : o ≠ n := by rintro rfl; exact hn (r.obj o _ ho).1
 obtain ⟨r1, l1⟩ := r.new (w' := X.w) rfl rfl rfl (Nat.le_refl _) (fun _ _ => rfl) n hn hm (.row ty es []) (.slice none 0 0) (by intro b hb'; simp [ft, hb] at hb')
  ⟨he, by simp, [], World.ownsRow_nil _ _ _ _, by simpa using All2.nil⟩
 -- the box reads as before, the cell by its new name
 let Y : Cx := { U := fun o => X.U o ∨ o = n, ρ := upd X.ρ n (.slice none 0 0), Φ := X.Φ, w := X.w }
 have hbx := (r1.obj o (.box tb cells) (by rw [upd_ne _ _ _ hon]; exact ho)).2
 have hbox : OR Y (.box tb (cells.set k (.row n 0))) (Y.ρ o) := by
  obtain ⟨b, c, h1, h2, h3⟩ := hbx
  refine ⟨b, c, h1, h2, by simpa using h3.1, ?_⟩
  intro i x y hx hy
  rw [List.getElem?_set] at hx
  split at hx
  ·rename_i hik
   subst hik
   split at hx
   ·simp only [Option.some.injEq] at hx
    subst hx
    have hv := h3.2 k _ y hc hy
    have hv' : FR X.Φ X.w (.lit (.slice none 0 0)) y := hv
    cases hv'
    exact ⟨.inr rfl, none, 0, 0, by simp [Y], Nat.le_refl _, Nat.le_refl _, rfl⟩
   ·simp at hx
  ·exact h3.2 i x y hx hy
 have hY : Rel w0 m ρ0 Φ0 (upd (upd H o (some (.box tb (cells.set k (.row n 0))))) n (some (.row ty es []))) Y := by
  have live : ∀ i x, upd (upd H o (some (.box tb (cells.set k (.row n 0))))) n (some (.row ty es [])) i = some x → ∃ x', upd H n (some (.row ty es [])) i = some x' ∧ (i = o ∨ x' = x) ∧ ∀ v k, ft x v k → ft x' v k := by
   intro i x hx
   by_cases h1 : i = n
   ·subst h1; rw [upd_same] at hx ⊢; exact ⟨_, rfl, .inr (Option.some.inj hx), fun v k hk => by rw [Option.some.inj hx]; exact hk⟩
   ·rw [upd_ne _ _ _ h1] at hx ⊢
    by_cases h2 : i = o
    ·subst h2; rw [upd_same] at hx; obtain rfl := Option.some.inj hx; exact ⟨_, ho, .inl rfl, fun v k hk => hk⟩
    ·rw [upd_ne _ _ _ h2] at hx; exact ⟨x, hx, .inr rfl, fun _ _ h => h⟩
  refine ⟨r1.os, r1.tape, r1.output, r1.size, r1.block, r1.pin, ?_, ?_, ?_, ?_, r1.fro, r1.phi, r1.glob⟩
  ·intro i x hx
   obtain ⟨x', hx', h, _⟩ := live i x hx
   obtain ⟨hu, hor⟩ := r1.obj i x' hx'
   refine ⟨hu, ?_⟩
   by_cases hio : i = o
   ·subst hio
    rw [upd_ne _ _ _ hon, upd_same] at hx
    obtain rfl := Option.some.inj hx
    exact hbox
   ·rcases h with h | rfl
    ·exact absurd h hio
    ·exact hor
  ·intro i i' x x' b h1 h2 e1 e2
   obtain ⟨_, q1, _, f1⟩ := live i x h1
   obtain ⟨_, q2, _, f2⟩ := live i' x' h2
   exact r1.inj i i' _ _ b q1 q2 (f1 _ _ e1) (f2 _ _ e2)
  ·intro i x b h1 e1
   obtain ⟨_, q1, _, f1⟩ := live i x h1
   exact r1.own i _ b q1 (f1 _ _ e1)
  ·intro i x b h1 e1
   obtain ⟨_, q1, _, f1⟩ := live i x h1
   exact r1.dis i _ b q1 (f1 _ _ e1)
 exact ⟨⟨Y, rfl, hY, hall.mono fun _ _ => l1.vv, hd, fun i hi => by
  rcases hi with h | rfl
  ·exact Nat.lt_succ_of_lt (hU i h)
  ·exact Nat.lt_succ_self _⟩, Nat.le_succ_of_le hm⟩
theorem weak_nilR {m n : Nat} {T : List EV} {H : Nat → Option EO} (i ty es : Nat) (hT : T[i]? = some (.v (.c (.fz (.lit (.slice none 0 0)))))) (he : 0 < es) :
  Weak m ⟨T, H, n⟩ ⟨T.set i (.v (.c (.row n 0))), upd H n (some (.row ty es [])), n + 1⟩ := by
 rintro w0 ρ0 Φ0 a w ⟨⟨X, rfl, r, hall, hd, hU⟩, hm⟩
 have hn : ¬ X.U n := fun h => Nat.lt_irrefl _ (hU n h)
 obtain ⟨r1, l1⟩ := r.new (w' := X.w) rfl rfl rfl (Nat.le_refl _) (fun _ _ => rfl) n hn hm (.row ty es []) (.slice none 0 0) (by intro b hb'; simp [ft, hb] at hb')
  ⟨he, by simp, [], World.ownsRow_nil _ _ _ _, by simpa using All2.nil⟩
 refine ⟨⟨{ U := fun o => X.U o ∨ o = n, ρ := upd X.ρ n (.slice none 0 0), Φ := X.Φ, w := X.w }, rfl, r1, ?_, hd, fun j hj => ?_⟩, Nat.le_succ_of_le hm⟩
 ·have h2 := hall.mono fun _ _ => l1.vv
  refine ⟨by rw [List.length_set]; exact hall.1, ?_⟩
  intro j x y hx hy
  rw [List.getElem?_set] at hx
  split at hx
  ·rename_i hij
   subst hij
   split at hx
   ·obtain rfl := Option.some.inj hx
    have h : FR X.Φ X.w (.lit (.slice none 0 0)) y := hall.2 i _ y hT hy
    cases h
    exact ⟨.inr rfl, none, 0, 0, by simp, Nat.le_refl _, Nat.le_refl _, rfl⟩
   ·simp at hx
  ·exact h2.2 j x y hx hy
 ·rcases hj with h | rfl
  ·exact Nat.lt_succ_of_lt (hU j h)
  ·exact Nat.lt_succ_self _
theorem weak_nilF {m n : Nat} {T : List EV} {H : Nat → Option EO} (i es : Nat) (hT : T[i]? = some (.v (.c (.fz (.lit (.slice none 0 0)))))) : Weak m ⟨T, H, n⟩ ⟨T.set i (.v (.c (.fz (.sl es [])))), H, n⟩ := by
 rintro w0 ρ0 Φ0 a w ⟨⟨X, hX, r, hall, hd, hU⟩, hm⟩
 refine ⟨⟨X, hX, r, ?_, hd, hU⟩, hm⟩
 refine ⟨by rw [List.length_set]; exact hall.1, ?_⟩
 intro j x y hx hy
 rw [List.getElem?_set] at hx
 split at hx
 ·rename_i hij
  subst hij
  split at hx
  ·obtain rfl := Option.some.inj hx
   have h : FR X.Φ X.w (.lit (.slice none 0 0)) y := hall.2 i _ y hT hy
   cases h
   exact FR.emp es none 0
  ·simp at hx
 ·exact hall.2 j x y hx hy
def gOf (gl : List Nat) (o : Nat) : Nat := (gl[o]?).getD o
def NormT (g : Nat → Nat) (n' : Nat) : List EV → List EV → Prop
 | [], [] => True
 | x :: r, y :: t => (y = .any ∨ (x = renV g y ∧ ∀ o ∈ refsV y, o < n')) ∧ NormT g n' r t
 | _, _ => False
def NormL (g : Nat → Nat) (H : Nat → Option EO) (n' : Nat) : Nat → List (Option EO) → Prop
 | _, [] => True
 | i, none :: r => NormL g H n' (i + 1) r
 | i, some x :: r => (H (g i) = some (renO g x) ∧ ∀ o ∈ refsO x, o < n') ∧ NormL g H n' (i + 1) r
def liveL : Nat → List (Option EO) → List Nat
 | _, [] => []
 | i, none :: r => liveL (i + 1) r
 | i, some _ :: r => i :: liveL (i + 1) r
theorem normL_get {g : Nat → Nat} {H : Nat → Option EO} {n' : Nat} : ∀ {L : List (Option EO)} {i : Nat}, NormL g H n' i L → ∀ (j : Nat) (x : EO), L[j]? = some (some x) → H (g (i + j)) = some (renO g x) ∧ ∀ o ∈ refsO x, o < n'
 | [], i, _, j, x, hj => by simp at hj
 | none :: r, i, h, j, x, hj => by
  cases j with
  | zero => simp at hj
  | succ j =>
   have := normL_get (L := r) (i := i + 1) h j x (by simpa using hj)
   rwa [show i + 1 + j = i + (j + 1) by omega] at this
 | some y :: r, i, h, j, x, hj => by
  cases j with
  | zero => simp at hj; subst hj; exact h.1
  | succ j =>
   have := normL_get (L := r) (i := i + 1) h.2 j x (by simpa using hj)
   rwa [show i + 1 + j = i + (j + 1) by omega] at this
theorem liveL_mem : ∀ {L : List (Option EO)} {i j : Nat} {x : EO}, L[j]? = some (some x) → i + j ∈ liveL i L
 | [], i, j, x, hj => by simp at hj
 | none :: r, i, j, x, hj => by
  cases j with
  | zero => simp at hj
  | succ j =>
   have := liveL_mem (L := r) (i := i + 1) (j := j) (x := x) (by simpa using hj)
   simp only [liveL]
   rwa [show i + 1 + j = i + (j + 1) by omega] at this
 | some y :: r, i, j, x, hj => by
  cases j with
  | zero => simp [liveL]
  | succ j =>
   have := liveL_mem (L := r) (i := i + 1) (j := j) (x := x) (by simpa using hj)
   simp only [liveL, List.mem_cons]
   right
   rwa [show i + 1 + j = i + (j + 1) by omega] at this
theorem nodup_map_inj {α β : Type} {f : α → β} : ∀ {l : List α}, (l.map f).Nodup → ∀ a ∈ l, ∀ b ∈ l, f a = f b → a = b
 | [], _, a, ha, _, _, _ => by simp at ha
 | x :: r, h, a, ha, b, hb, e => by
  rw [List.map_cons, List.nodup_cons] at h
  obtain ⟨h1, h2⟩ := h
  rcases List.mem_cons.1 ha with q1 | q1
  ·rcases List.mem_cons.1 hb with q2 | q2
   ·rw [q1, q2]
   ·exact (h1 (List.mem_map.2 ⟨b, q2, by rw [← e, q1]⟩)).elim
  ·rcases List.mem_cons.1 hb with q2 | q2
   ·exact (h1 (List.mem_map.2 ⟨a, q1, by rw [e, q2]⟩)).elim
   ·exact nodup_map_inj h2 a q1 b q2 e
theorem normT_split {g : Nat → Nat} {n' : Nat} : ∀ {T T' : List EV}, NormT g n' T T' → ∃ T1, Forgets T T1 ∧ T1 = T'.map (renV g) ∧ ∀ e ∈ T', ∀ o ∈ refsV e, o < n'
 | [], [], _ => ⟨[], trivial, rfl, by simp⟩
 | x :: r, y :: t, h => by
  obtain ⟨T1, h1, h2, h3⟩ := normT_split h.2
  refine ⟨renV g y :: T1, ⟨?_, h1⟩, by simp [h2], ?_⟩
  ·rcases h.1 with rfl | ⟨rfl, _⟩
   ·exact .inr rfl
   ·exact .inl rfl
  ·intro e he o ho
   rcases List.mem_cons.1 he with rfl | he
   ·rcases h.1 with rfl | ⟨_, hr⟩
    ·simp [refsV] at ho
    ·exact hr o ho
   ·exact h3 e he o ho
 | [], _ :: _, h => h.elim
 | _ :: _, [], h => h.elim
theorem ofO_some {L : List (Option EO)} {o : Nat} {x : EO} (h : ofO L o = some x) : L[o]? = some (some x) := by
 unfold ofO at h
 cases hh : L[o]? with
 | none => rw [hh] at h; simp at h
 | some z => rw [hh] at h; simp at h; rw [h]
theorem weak_norm {m n : Nat} {T : List EV} {H : Nat → Option EO} (gl : List Nat) (T' : List EV) (L : List (Option EO)) (hT : NormT (gOf gl) L.length T T') (hL : NormL (gOf gl) H L.length 0 L) (hinj : ((liveL 0 L).map (gOf gl)).Nodup)
  (hg : ∀ o, o < m → gOf gl o = o) (hm : m ≤ L.length) : Weak m ⟨T, H, n⟩ ⟨T', ofO L, L.length⟩ := by
 obtain ⟨T1, h1, h2, h3⟩ := normT_split hT
 refine (weak_forget (n' := n) h1 (H' := H) (fun _ _ h => h) (Nat.le_refl _)).trans ?_
 refine weak_ren (gOf gl) hg ?_ h2 ?_ h3 ?_ hm
 ·intro o o' x x' hx hx' e
  have q1 := liveL_mem (i := 0) (ofO_some hx)
  have q2 := liveL_mem (i := 0) (ofO_some hx')
  rw [Nat.zero_add] at q1 q2
  exact nodup_map_inj hinj o q1 o' q2 e
 ·intro o x hx
  have h := ofO_some hx
  have := (normL_get hL o x h).1
  rw [Nat.zero_add] at this
  exact ⟨lt_len h, this⟩
 ·intro o x hx
  exact (normL_get hL o x (ofO_some hx)).2
attribute [simp] NormT NormL liveL gOf
def Round {α : Type} (m : Nat) (inv : α → Prop) (mu : α → Nat) (Tf : α → List EV) (Lf : α → List (Option EO)) (a : α) (s' : St) : Prop :=
 ∃ a', inv a' ∧ mu a' < mu a ∧ Weak m s' ⟨Tf a', ofO (Lf a'), (Lf a').length⟩
theorem loopW {P : Program} {m : Nat} {b : EB} {Q : Exit → St → Tok → Prop} {s : St} (s' : St) (hw : Weak m s s') (h : LoopT P m b Q s') : LoopT P m b Q s := by
 obtain ⟨I, k0, s0, h1, h2⟩ := h
 exact ⟨I, k0, s0, hw.trans h1, h2⟩
theorem eloop {α : Type} {P : Program} {m n : Nat} {b : EB} {Q : Exit → St → Tok → Prop} {T : List EV} {H : Nat → Option EO} (inv : α → Prop) (mu : α → Nat) (Tf : α → List EV) (Lf : α → List (Option EO)) (a0 : α) (gl : List Nat)
  (hi : inv a0) (hT : NormT (gOf gl) (Lf a0).length T (Tf a0)) (hL : NormL (gOf gl) H (Lf a0).length 0 (Lf a0)) (hinj : ((liveL 0 (Lf a0)).map (gOf gl)).Nodup) (hg : ∀ o, o < m → gOf gl o = o) (hm : m ≤ (Lf a0).length)
  (hr : ∀ a, inv a → ewT .on P m b (fun e s' t => match e with | .normal => Round m inv mu Tf Lf a s' | e => Q e s' t) ⟨Tf a, ofO (Lf a), (Lf a).length⟩) : LoopT P m b Q ⟨T, H, n⟩ := by
 refine ⟨fun k s => ∃ a, inv a ∧ mu a = k ∧ s = ⟨Tf a, ofO (Lf a), (Lf a).length⟩, mu a0, _, weak_norm gl _ _ hT hL hinj hg hm, ⟨a0, hi, rfl, rfl⟩, ?_⟩
 rintro k s ⟨a, ha, rfl, rfl⟩
 refine ew_mono ?_ (hr a ha)
 intro e s' h
 cases e with
 | normal =>
  obtain ⟨a', h1, h2, h3⟩ := h
  exact ⟨_, _, h3, h2, a', h1, rfl, rfl⟩
 | _ => exact h
theorem round {α : Type} {m n : Nat} {inv : α → Prop} {mu : α → Nat} {Tf : α → List EV} {Lf : α → List (Option EO)} {a : α} {T : List EV} {H : Nat → Option EO} (a' : α) (gl : List Nat)
  (hi : inv a') (hk : mu a' < mu a) (hT : NormT (gOf gl) (Lf a').length T (Tf a')) (hL : NormL (gOf gl) H (Lf a').length 0 (Lf a')) (hinj : ((liveL 0 (Lf a')).map (gOf gl)).Nodup) (hg : ∀ o, o < m → gOf gl o = o) (hm : m ≤ (Lf a').length) : Round m inv mu Tf Lf a ⟨T, H, n⟩ :=
 ⟨a', hi, hk, weak_norm gl _ _ hT hL hinj hg hm⟩
def cb (b : UInt8) : List FV := [.lit (.int .u8 b.toNat)]
def bsv (l : List UInt8) : List (List FV) := l.map cb
@[simp] theorem bsv_len (l : List UInt8) : (bsv l).length = l.length := by simp [bsv]
@[simp] theorem bsv_app (l k : List UInt8) : bsv l ++ bsv k = bsv (l ++ k) := by simp [bsv]
@[simp] theorem bsv_take (l : List UInt8) (n : Nat) : (bsv l).take n = bsv (l.take n) := by simp [bsv]
@[simp] theorem bsv_drop (l : List UInt8) (n : Nat) : (bsv l).drop n = bsv (l.drop n) := by simp [bsv]
@[simp] theorem bsv_tail (l : List UInt8) : (bsv l).tail = bsv l.tail := by cases l <;> rfl
@[simp] theorem bsv_nil : bsv [] = [] := rfl
def I (k : IntKind) (n : Int) : EV := .v (.c (.fz (.lit (.int k n))))
def Bs (l : List UInt8) : EV := .v (.c (.fz (.sl 1 (bsv l))))
def strb (l : List UInt8) : ByteArray := ⟨l.toArray⟩
@[simp] theorem bytesOf_bsv (l : List UInt8) : bytesOf (bsv l) = some (l.map fun b => (b.toNat : Int)) := by
 induction l with
 | nil => rfl
 | cons b r ih => simp only [bsv, List.map_cons, cb] at *; simp only [bytesOf, ih]; rfl
@[simp] theorem strOf_map (l : List UInt8) : strOf (l.map fun b => (b.toNat : Int)) = strb l := by
 have h : ((fun n : Int => UInt8.ofNat n.toNat) ∘ fun b : UInt8 => (b.toNat : Int)) = id := by funext b; simp
 rw [strOf, List.map_map, h, List.map_id]
 rfl
theorem bytes_list (s : ByteArray) : s.toList = s.data.toList := by
 rw [ByteArray.toList_eq]
@[simp] theorem strb_list (l : List UInt8) : (strb l).toList = l := by
 rw [bytes_list]; rfl
@[simp] theorem strb_size (l : List UInt8) : (strb l).size = l.length := rfl
@[simp] theorem lit_list (l : List UInt8) : ByteArray.toList ⟨l.toArray⟩ = l := strb_list l
def hc (l : List UInt8) : List EC := l.map fun b => .fz (.lit (.int .u8 b.toNat))
def hf (l : List UInt8) : List FV := l.map fun b => .lit (.int .u8 b.toNat)
@[simp] theorem hc_len (l : List UInt8) : (hc l).length = l.length := by simp [hc]
@[simp] theorem hf_len (l : List UInt8) : (hf l).length = l.length := by simp [hf]
@[simp] theorem hc_take (l : List UInt8) (n : Nat) : (hc l).take n = hc (l.take n) := by simp [hc]
@[simp] theorem hc_drop (l : List UInt8) (n : Nat) : (hc l).drop n = hc (l.drop n) := by simp [hc]
@[simp] theorem frz_hc (l : List UInt8) : frzAll (hc l) = some (hf l) := by
 induction l with
 | nil => rfl
 | cons b r ih => simp only [hc, List.map_cons, frzAll] at *; rw [ih]; rfl
@[simp] theorem conAll_hc (H : Nat → Option EO) (ids : List Nat) (l : List UInt8) : conAll H ids (hc l) = some (hc l) := by
 induction l with
 | nil => rfl
 | cons b r ih => simp only [hc, List.map_cons, conAll] at *; rw [ih]; rfl
@[simp] theorem strAll_hc (ids : List Nat) (l : List UInt8) : strAll ids (hc l) = some (hc l) := by
 induction l with
 | nil => rfl
 | cons b r ih => simp only [hc, List.map_cons, strAll] at *; rw [ih]; rfl
@[simp] theorem refs_hc (l : List UInt8) : (hc l).flatMap refsC = [] := by
 induction l with
 | nil => rfl
 | cons b r ih => simp only [hc, List.map_cons, List.flatMap_cons] at *; rw [ih]; rfl
@[simp] theorem fz_hc (ids : List Nat) (l : List UInt8) : (hc l).flatMap (fzC ids) = [] := by
 induction l with
 | nil => rfl
 | cons b r ih => simp only [hc, List.map_cons, List.flatMap_cons] at *; rw [ih]; rfl
@[simp] theorem ren_hc (g : Nat → Nat) (l : List UInt8) : (hc l).map (renC g) = hc l := by
 induction l with
 | nil => rfl
 | cons b r ih => simp only [hc, List.map_cons] at *; rw [ih]; rfl
@[simp] theorem fz_map_hf (l : List UInt8) : (hf l).map EC.fz = hc l := by simp [hf, hc]
@[simp] theorem hf_take (l : List UInt8) (n : Nat) : (hf l).take n = hf (l.take n) := by simp [hf]
@[simp] theorem hf_drop (l : List UInt8) (n : Nat) : (hf l).drop n = hf (l.drop n) := by simp [hf]
@[simp] theorem bsv_flat (l : List UInt8) : (bsv l).flatten = hf l := by
 induction l with
 | nil => rfl
 | cons b r ih => simp only [bsv, hf, List.map_cons, List.flatten_cons, cb, List.cons_append, List.nil_append] at *; rw [ih]
@[simp] theorem hf_one (l : List UInt8) : (hf l).map (fun x => [x]) = bsv l := by simp [hf, bsv, cb]
def hz : List UInt8 := List.replicate 32 0
def zU8 : List Value := List.replicate 32 (.int .u8 0)
@[simp] theorem hz_len : hz.length = 32 := rfl
@[simp] theorem zU8_len : zU8.length = 32 := rfl
@[simp] theorem zU8_litc : zU8.map litc = hc hz := rfl
@[simp] theorem zU8_litc' : List.map (fun v => EC.fz (FV.lit v)) zU8 = hc hz := rfl
@[simp] theorem zU8_lit : List.map FV.lit zU8 = hf hz := rfl
@[simp] theorem hz_take : hz.take 32 = hz := rfl
@[simp] theorem hz_drop : hz.drop 32 = [] := rfl
theorem hc_inj {l m : List UInt8} (h : l.map (fun b => (b.toNat : Int)) = m.map (fun b => (b.toNat : Int))) : l = m := by
 induction l generalizing m with
 | nil => cases m with
  | nil => rfl
  | cons _ _ => simp at h
 | cons a l ih => cases m with
  | nil => simp at h
  | cons b m =>
   simp only [List.map_cons, List.cons.injEq] at h
   rw [ih h.2]
   congr 1
   apply UInt8.toNat_inj.1
   omega
@[simp] theorem hc_iff (l m : List UInt8) : (l.map (fun b => (b.toNat : Int)) = m.map (fun b => (b.toNat : Int))) ↔ l = m := ⟨hc_inj, fun h => by rw [h]⟩
@[simp] theorem intsOf_hc (l : List UInt8) : intsOf .u8 (hc l) = some (l.map fun b => (b.toNat : Int)) := by
 induction l with
 | nil => rfl
 | cons b r ih => simp only [hc, List.map_cons] at *; simp only [intsOf, if_true, ih]; rfl
def Ag (l : List UInt8) : EV := .v (.agg (hc l))
theorem wrap_i64 {n : Int} (h1 : -9223372036854775808 ≤ n) (h2 : n ≤ 9223372036854775807) : IntKind.i64.wrap n = n := IntWalk.i64_in n ⟨h1, h2⟩
theorem wrap_u8 {n : Int} (h1 : 0 ≤ n) (h2 : n ≤ 255) : IntKind.u8.wrap n = n := IntWalk.u8_in n ⟨h1, h2⟩
theorem wrap_u64 {n : Int} (h1 : 0 ≤ n) (h2 : n ≤ 18446744073709551615) : IntKind.u64.wrap n = n := by
 simp [IntKind.wrap, IntKind.bits, IntKind.signed]; omega
theorem wrap_u8_nat (n : Nat) : IntKind.u8.wrap (n : Int) = ((b8 n).toNat : Int) := by
 rw [IntKind.wrap_u8]
 simp [b8]
theorem ibit_xor_u8 (x y : UInt8) : ibit .xor .u8 x.toNat y.toNat = (x ^^^ y).toNat := by
 have h1 : BitVec.ofInt IntKind.u8.bits (x.toNat : Int) = x.toBitVec := by
  simp [IntKind.bits]
 have h2 : BitVec.ofInt IntKind.u8.bits (y.toNat : Int) = y.toBitVec := by
  simp [IntKind.bits]
 have h3 : (BitVec.ofInt IntKind.u8.bits (x.toNat : Int) ^^^ BitVec.ofInt IntKind.u8.bits (y.toNat : Int)).toNat = (x ^^^ y).toNat := by
  rw [h1, h2]; rfl
 refine (congrArg (fun n : Nat => IntKind.u8.wrap (n : Int)) h3).trans ?_
 exact IntWalk.u8_in _ ⟨by omega, by have := (x ^^^ y).toNat_lt; simp at *; omega⟩
@[simp] theorem pun_not (b : Bool) : pun .not (.bool b) = some (.bool !b) := rfl
@[simp] theorem pun_neg (k : IntKind) (n : Int) : pun .neg (.int k n) = some (.int k (k.wrap (-n))) := by simp [pun]
@[simp] theorem pun_xor (n : Int) : pun .xor (.int .i64 n) = some (.int .i64 (IntKind.i64.wrap (-1 - n))) := by
 have h1 : (BitVec.ofInt IntKind.i64.bits (-1) ^^^ BitVec.ofInt IntKind.i64.bits n) = ~~~ (BitVec.ofInt 64 n) := by
  have : BitVec.ofInt IntKind.i64.bits (-1) = BitVec.allOnes 64 := rfl
  rw [this]
  exact BitVec.allOnes_xor
 have h2 : (BitVec.ofInt IntKind.i64.bits (-1) ^^^ BitVec.ofInt IntKind.i64.bits n).toNat = (~~~ (BitVec.ofInt 64 n)).toNat := by rw [h1]; rfl
 simp only [pun, Option.some.injEq, Value.int.injEq, true_and]
 refine (congrArg (fun m : Nat => IntKind.i64.wrap (m : Int)) h2).trans ?_
 rw [BitVec.toNat_not, BitVec.toNat_ofInt]
 simp [IntKind.wrap, IntKind.bits, IntKind.signed]
 omega
theorem ishr_nat (k : IntKind) (n j : Nat) (h : j ≤ k.bits) : ishr k (n : Int) (j : Int) = ((n / 2 ^ j : Nat) : Int) := by
 simp only [ishr, Int.toNat_natCast]
 rw [show min j k.bits = j by omega, Int.fdiv_eq_ediv_of_nonneg _ (by have : (0:Int) < 2 ^ j := Int.pow_pos (by omega); omega)]
 simp
theorem ishr_u64 (n j : Nat) (h : 8 * j ≤ 64) : ishr .u64 (n : Int) (8 * (j : Int)) = ((n / 256 ^ j : Nat) : Int) := by
 have := ishr_nat .u64 n (8 * j) h
 rw [Nat.pow_mul] at this
 simpa using this
theorem ishr_pow (k : IntKind) (a : Int) (j : Nat) (h : j ≤ k.bits) : ishr k a (j : Int) = a / 2 ^ j := by
 simp only [ishr, Int.toNat_natCast]
 rw [show min j k.bits = j by omega, Int.fdiv_eq_ediv_of_nonneg _ (by have : (0:Int) < 2 ^ j := Int.pow_pos (by omega); omega)]
@[simp] theorem ishr_32 (a : Int) : ishr .u64 a 32 = a / 4294967296 := ishr_pow .u64 a 32 (by decide)
@[simp] theorem ishr_16 (a : Int) : ishr .u64 a 16 = a / 65536 := ishr_pow .u64 a 16 (by decide)
@[simp] theorem ishr_8 (a : Int) : ishr .u64 a 8 = a / 256 := ishr_pow .u64 a 8 (by decide)
theorem byte_u64 (n j : Nat) (h : 8 * j ≤ 64) : IntKind.u8.wrap (ishr .u64 (n : Int) (8 * (j : Int))) = ((b8 (n / 256 ^ j)).toNat : Int) := by
 rw [ishr_u64 n j h, wrap_u8_nat]
theorem xor_byte (n j : Nat) (m : UInt8) (h : 8 * j ≤ 64) : ibit .xor .u8 (IntKind.u8.wrap (ishr .u64 (n : Int) (8 * (j : Int)))) m.toNat = ((b8 (n / 256 ^ j) ^^^ m).toNat : Int) := by
 rw [byte_u64 n j h, ibit_xor_u8]
theorem wS {i : Nat} (h : i < 1000000000000) : IntKind.i64.wrap ((i : Int) + 1) = ((i + 1 : Nat) : Int) := wrap_i64 (by omega) (by omega)
end Go.EW
namespace Go.EW
open Go
structure BOk (B : (H : Type) → DataW H → Nat) (BA : (H : Type) → List (DataW H) → Nat) : Prop where
 lit : ∀ (H : Type) (x : Lit), 1 ≤ B H (.lit x)
 str : ∀ (H : Type) (l : List UInt8), l.length + 1 ≤ B H (.lit (.string l))
 nil : ∀ (H : Type), 1 ≤ B H .nil
 sl : ∀ (H : Type) (es sp : List (DataW H)), BA H es + 1 ≤ B H (.slice es sp)
 agg : ∀ (H : Type) (ps : List (DataW H)), BA H ps + 1 ≤ B H (.agg ps)
 cons : ∀ (H : Type) (d : DataW H) (r : List (DataW H)), B H d + BA H r ≤ BA H (d :: r)
def Opn (B : (H : Type) → DataW H → Nat) (P : Program) (t : TypeId) {α : Type} (f : α → List FV) (ok : α → Prop) (bulk : α → Nat) : Prop :=
 ∀ (H : Type) (enc : TypeId × Value → H) (w : World) (spare : Nat → Bool) (held : Bool) (fuel : Nat) (cs : List Value) (d : DataW H) (q : List MemPlace),
  DataW.trod enc P w 0 spare held fuel t cs = some (d, q) → ∃ a : α, ok a ∧ bulk a ≤ B H d ∧ All2 (FR (fun b => b < w.heap.size) w) (f a) cs
def sumB {α : Type} (bulk : α → Nat) : List α → Nat
 | [] => 0
 | a :: r => bulk a + sumB bulk r
theorem list_choose {α : Type} {R : Nat → α → Prop} : ∀ (n : Nat), (∀ i, i < n → ∃ a, R i a) → ∃ l : List α, l.length = n ∧ ∀ i a, l[i]? = some a → R i a
 | 0, _ => ⟨[], rfl, by simp⟩
 | n + 1, h => by
  obtain ⟨l, hl, hr⟩ := list_choose n (fun i hi => h i (by omega))
  obtain ⟨a, ha⟩ := h n (by omega)
  refine ⟨l ++ [a], by simp [hl], ?_⟩
  intro i x hx
  rw [List.getElem?_append] at hx
  split at hx
  ·exact hr i x hx
  ·rename_i hi
   rw [hl] at hx hi
   have hi0 : i - n = 0 := by
    have := (List.getElem?_eq_some_iff.1 hx).1
    simp at this
    omega
   rw [hi0] at hx
   simp at hx
   subst hx
   have : i = n := by omega
   rw [this]
   exact ha
theorem All2.flatten {α β : Type} {R : α → β → Prop} : ∀ {xs : List (List α)} {ys : List (List β)}, All2 (All2 R) xs ys → All2 R xs.flatten ys.flatten
 | [], ys, h => by
  have := h.nil_left
  subst this
  exact All2.nil
 | x :: r, ys, h => by
  obtain ⟨y, t, rfl, h1, h2⟩ := h.cons_left
  exact h1.append (All2.flatten h2)
theorem row_cells {w : World} {b es : Nat} : ∀ (css : List (List Value)) (off : Nat), (∀ c ∈ css, c.length = es) → (∀ i c, css[i]? = some c → ∀ j u, c[j]? = some u → w.cell? ⟨b, off + i * es + j, none⟩ = some u) →
  ∀ j u, css.flatten[j]? = some u → w.cell? ⟨b, off + j, none⟩ = some u
 | [], off, _, _, j, u, h => by simp at h
 | c :: r, off, hl, hc, j, u, h => by
  rw [List.flatten_cons, List.getElem?_append] at h
  split at h
  ·simpa using hc 0 c rfl j u h
  ·rename_i hj
   have hlc := hl c (by simp)
   have := row_cells r (off + es) (fun x hx => hl x (by simp [hx])) (fun i x hx k v hv => by
    have := hc (i + 1) x (by simpa using hx) k v hv
    rwa [show off + (i + 1) * es + k = off + es + i * es + k by rw [Nat.succ_mul]; omega] at this) (j - c.length) u h
   rwa [show off + es + (j - c.length) = off + j by omega] at this
section
variable {B : (H : Type) → DataW H → Nat} {BA : (H : Type) → List (DataW H) → Nat} {P : Program} {t : TypeId}
theorem Opn.map {α β : Type} {f : α → List FV} {ok : α → Prop} {bulk : α → Nat} (h : Opn B P t f ok bulk) {f' : β → List FV} {ok' : β → Prop} {bulk' : β → Nat} (g : α → β) (hf : ∀ a, ok a → f' (g a) = f a) (ho : ∀ a, ok a → ok' (g a)) (hb : ∀ a, ok a → bulk' (g a) ≤ bulk a) : Opn B P t f' ok' bulk' := by
 intro H enc w spare held fuel cs d q hd
 obtain ⟨a, h1, h2, h3⟩ := h H enc w spare held fuel cs d q hd
 exact ⟨g a, ho a h1, Nat.le_trans (hb a h1) h2, by rw [hf a h1]; exact h3⟩
theorem opn_int (hB : BOk B BA) {k : IntKind} (ht : P.underlying t = some (.int k)) : Opn B P t (fun n : Int => [.lit (.int k n)]) (fun n => (Lit.int k n).wf = true) (fun _ => 1) := by
 intro H enc w spare held fuel cs d q hd
 cases fuel with
 | zero => simp [DataW.trod] at hd
 | succ n =>
  unfold DataW.trod at hd
  rw [ht] at hd
  split at hd <;> try (simp_all; done)
  rename_i k1 k' m heq
  simp only [Option.some.injEq, TypeDesc.int.injEq] at heq
  subst heq
  split at hd
  ·rename_i hh
   obtain ⟨rfl, hw⟩ := hh
   simp only [Option.some.injEq, Prod.mk.injEq] at hd
   obtain ⟨rfl, _⟩ := hd
   exact ⟨m, hw, hB.lit H _, All2.cons (FR.lit _ rfl) All2.nil⟩
  ·simp at hd
theorem opn_slice (hB : BOk B BA) {e : TypeId} {es : Nat} (ht : P.underlying t = some (.slice e)) (hes : P.cellsOf e = es) (h0 : 0 < es) {α : Type} {f : α → List FV} {ok : α → Prop} {bulk : α → Nat} (ho : Opn B P e f ok bulk) :
  Opn B P t (fun l : List α => [.sl es (l.map f)]) (fun l => (∀ a ∈ l, ok a) ∧ l.length ≤ maxLen) (fun l => sumB bulk l + 1) := by
 intro H enc w spare held fuel cs d q hd
 cases fuel with
 | zero => simp [DataW.trod] at hd
 | succ n =>
  unfold DataW.trod at hd
  rw [ht] at hd
  split at hd <;> try (simp_all; done)
  ·simp only [Option.some.injEq, Prod.mk.injEq] at hd
   obtain ⟨rfl, _⟩ := hd
   exact ⟨[], by simp, hB.nil H, All2.cons (FR.emp es none 0) All2.nil⟩
  ·rename_i e' a len cap heq
   simp only [Option.some.injEq, TypeDesc.slice.injEq] at heq
   subst heq
   simp only at hd
   split at hd
   case isFalse => simp at hd
   rename_i hc
   replace hd := Option.bind_eq_some_iff.1 hd
   obtain ⟨elems, hel, hd⟩ := hd
   replace hd := Option.map_eq_some_iff.1 hd
   obtain ⟨rest, _, hd⟩ := hd
   simp only [Prod.mk.injEq] at hd
   obtain ⟨rfl, _⟩ := hd
   have hlen : elems.length = len := by simpa using mapM_some_length hel
   have hget : ∀ i, i < len → ∃ (p : α × List Value × DataW H), (elems.map (·.1))[i]? = some p.2.2 ∧ ok p.1 ∧ bulk p.1 ≤ B H p.2.2 ∧ All2 (FR (fun b => b < w.heap.size) w) (f p.1) p.2.1 ∧ p.2.1.length = es ∧
     ∀ j, j < es → w.cell? ((a.add (i * es)).add j) = p.2.1[j]? := by
    intro i hi
    have h1 := mapM_some_get hel i i (by simp [hi])
    have hi' : i < elems.length := by omega
    rw [List.getElem?_eq_getElem hi'] at h1
    replace h1 := Option.bind_eq_some_iff.1 h1
    obtain ⟨ci, hci, htr⟩ := h1
    rw [hes] at hci
    obtain ⟨_, q1, q2⟩ := World.cells?_some hci
    obtain ⟨x, h2, h3, h4⟩ := ho H enc w spare held n ci _ _ (show DataW.trod enc P w 0 spare held n e ci = some ((elems[i]).1, (elems[i]).2) from htr)
    exact ⟨(x, ci, (elems[i]).1), by simp [hi'], h2, h3, h4, q1, q2⟩
   obtain ⟨L, hL, hR⟩ := list_choose len hget
   have hspot : 0 < len → a.spot = none := by
    intro hp
    obtain ⟨p, hp0⟩ : ∃ p, L[0]? = some p := ⟨L[0]'(by omega), by simp [hL, hp]⟩
    obtain ⟨_, _, _, _, hl, hce⟩ := hR 0 p hp0
    have h1 := hce 0 h0
    rw [show 0 * es = 0 by omega, show a.add 0 = a from rfl, show a.add 0 = a from rfl, List.getElem?_eq_getElem (by omega)] at h1
    unfold World.cell? at h1
    split at h1
    ·split at h1
     ·simp at h1
     ·rename_i hs; simpa using hs
    ·simp at h1
   refine ⟨L.map (·.1), ⟨?_, by simp [hL]; omega⟩, ?_, ?_⟩
   ·intro x hx
    obtain ⟨p, hp, rfl⟩ := List.mem_map.1 hx
    obtain ⟨i, hi⟩ := List.getElem?_of_mem hp
    exact (hR i p hi).2.1
   ·refine Nat.le_trans (Nat.succ_le_succ ?_) (hB.sl H _ _)
    have key : ∀ (L : List (α × List Value × DataW H)) (D : List (DataW H)), L.length = D.length → (∀ (i : Nat) (p : α × List Value × DataW H), L[i]? = some p → D[i]? = some p.2.2 ∧ bulk p.1 ≤ B H p.2.2) → sumB bulk (L.map (·.1)) ≤ BA H D := by
     intro L
     induction L with
     | nil => intro D _ _; simp [sumB]
     | cons p r ih =>
      intro D hl hh
      cases D with
      | nil => simp at hl
      | cons d D =>
       have h1 := hh 0 p rfl
       simp at h1
       have h2 := ih D (by simpa using hl) (fun i p' hp' => by simpa using hh (i + 1) p' (by simpa using hp'))
       have h3 := hB.cons H d D
       simp only [List.map_cons, sumB]
       rw [h1.1] at h3 ⊢
       omega
    exact key L (elems.map (·.1)) (by simp [hL, hlen]) (fun i p hp => ⟨(hR i p hp).1, (hR i p hp).2.2.1⟩)
   ·refine All2.cons ?_ All2.nil
    rcases Nat.eq_zero_or_pos len with hz | hp
    ·have : L = [] := List.eq_nil_of_length_eq_zero (by omega)
     subst this
     subst hz
     exact FR.emp es (some a) cap
    ·obtain ⟨b, off, hab⟩ : ∃ b off, a = ⟨b, off, none⟩ := ⟨a.block, a.off, by have := hspot hp; cases a; simp_all⟩
     subst hab
     have hcl : ∀ c ∈ L.map (·.2.1), c.length = es := by
      intro c hc'
      obtain ⟨p, hp', rfl⟩ := List.mem_map.1 hc'
      obtain ⟨i, hi⟩ := List.getElem?_of_mem hp'
      exact (hR i p hi).2.2.2.2.1
     have hcell := row_cells (w := w) (b := b) (es := es) (L.map (·.2.1)) off hcl (by
      intro i c hc' j u hu
      rw [List.getElem?_map] at hc'
      obtain ⟨p, hp', rfl⟩ := Option.map_eq_some_iff.1 hc'
      obtain ⟨_, _, _, _, hl, hce⟩ := hR i p hp'
      have hj : j < es := by rw [← hl]; exact (List.getElem?_eq_some_iff.1 hu).1
      have := hce j hj
      rw [Addr.add_lit, Addr.add_lit] at this
      rw [this, hu])
     have hall : All2 (All2 (FR (fun b => b < w.heap.size) w)) ((L.map (·.1)).map f) (L.map (·.2.1)) := by
      refine ⟨by simp, ?_⟩
      intro i x y hx hy
      rw [List.getElem?_map, List.getElem?_map] at hx
      rw [List.getElem?_map] at hy
      obtain ⟨p, hp', rfl⟩ := Option.map_eq_some_iff.1 hy
      rw [hp'] at hx
      simp only [Option.map_some, Option.some.injEq] at hx
      subst hx
      exact (hR i p hp').2.2.2.1
     have hfl := hall.flatten
     have hxl : ((L.map (·.1)).map f).length = len := by simp [hL]
     have hxs : ∀ x ∈ (L.map (·.1)).map f, x.length = es := by
      intro x hx
      obtain ⟨i, hi⟩ := List.getElem?_of_mem hx
      obtain ⟨y, hy, hr⟩ := hall.get hi
      rw [hr.1]
      exact hcl y (List.mgE hy)
     have hvl : (L.map (·.2.1)).flatten.length = ((L.map (·.1)).map f).length * es := by
      rw [flatten_length hcl]; simp
     have hb : b < w.heap.size := by
      have h1 : 0 < (L.map (·.2.1)).flatten.length := by rw [hvl, hxl]; exact Nat.mul_pos hp h0
      have h2 := hcell 0 _ (List.getElem?_eq_getElem h1)
      unfold World.cell? at h2
      split at h2
      ·rename_i hh; exact (Array.getElem?_eq_some_iff.1 hh).1
      ·simp at h2
     have := FR.sl (Φ := fun b => b < w.heap.size) (w := w) es ((L.map (·.1)).map f) b off cap (L.map (·.2.1)).flatten hb h0 hxs hvl (by omega) hcell hfl.2
     rw [hxl] at this
     exact this
  all_goals (exfalso; simp_all)
theorem opn_array (hB : BOk B BA) {e : TypeId} {es n : Nat} (ht : P.underlying t = some (.array n e)) (hes : P.cellsOf e = es) (hts : P.cellsOf t = n * es) {α : Type} {f : α → List FV} {ok : α → Prop} {bulk : α → Nat} (ho : Opn B P e f ok bulk) :
  Opn B P t (fun l : List α => l.flatMap f) (fun l => (∀ a ∈ l, ok a) ∧ l.length = n) (fun l => sumB bulk l + 1) := by
 intro H enc w spare held fuel cs d q hd
 obtain ⟨xs, m, rfl, hx, hcl, hxl, hg⟩ := DataW.trod_array ht hd
 simp only [Prod.mk.injEq] at hx
 obtain ⟨rfl, _⟩ := hx
 rw [hts] at hcl
 have hget : ∀ i, i < n → ∃ p : α × DataW H, (xs.map (·.1))[i]? = some p.2 ∧ ok p.1 ∧ bulk p.1 ≤ B H p.2 ∧ All2 (FR (fun b => b < w.heap.size) w) (f p.1) ((cs.drop (i * es)).take es) := by
  intro i hi
  have h1 := hg i hi
  rw [List.getElem?_eq_getElem (show i < xs.length by omega), hes] at h1
  obtain ⟨x, h2, h3, h4⟩ := ho H enc w spare held m _ _ _ (show _ = some ((xs[i]).1, (xs[i]).2) from h1)
  exact ⟨(x, (xs[i]).1), by simp [hxl, hi], h2, h3, h4⟩
 obtain ⟨L, hL, hR⟩ := list_choose n hget
 refine ⟨L.map (·.1), ⟨?_, by simp [hL]⟩, ?_, ?_⟩
 ·intro x hx
  obtain ⟨p, hp, rfl⟩ := List.mem_map.1 hx
  obtain ⟨i, hi⟩ := List.getElem?_of_mem hp
  exact (hR i p hi).2.1
 ·refine Nat.le_trans (Nat.succ_le_succ ?_) (hB.agg H _)
  have key : ∀ (L : List (α × DataW H)) (D : List (DataW H)), L.length = D.length → (∀ (i : Nat) (p : α × DataW H), L[i]? = some p → D[i]? = some p.2 ∧ bulk p.1 ≤ B H p.2) → sumB bulk (L.map (·.1)) ≤ BA H D := by
   intro L
   induction L with
   | nil => intro D _ _; simp [sumB]
   | cons p r ih =>
    intro D hl hh
    cases D with
    | nil => simp at hl
    | cons d D =>
     have h1 := hh 0 p rfl
     simp at h1
     have h2 := ih D (by simpa using hl) (fun i p' hp' => by simpa using hh (i + 1) p' (by simpa using hp'))
     have h3 := hB.cons H d D
     simp only [List.map_cons, sumB]
     rw [h1.1] at h3 ⊢
     omega
  exact key L (xs.map (·.1)) (by simp [hL, hxl]) (fun i p hp => ⟨(hR i p hp).1, (hR i p hp).2.2.1⟩)
 ·have key : ∀ (L : List (α × DataW H)) (cs : List Value), cs.length = L.length * es → (∀ (i : Nat) (p : α × DataW H), L[i]? = some p → All2 (FR (fun b => b < w.heap.size) w) (f p.1) ((cs.drop (i * es)).take es)) → All2 (FR (fun b => b < w.heap.size) w) ((L.map (·.1)).flatMap f) cs := by
   intro L
   induction L with
   | nil => intro cs hc _; simp at hc; subst hc; exact All2.nil
   | cons p r ih =>
    intro cs hc hh
    have h1 := hh 0 p rfl
    have h2 := ih (cs.drop es) (by rw [List.length_drop, hc, List.length_cons, Nat.succ_mul]; omega) (fun i p' hp' => by
     have := hh (i + 1) p' (by simpa using hp')
     rwa [List.drop_drop, show es + i * es = (i + 1) * es by rw [Nat.succ_mul]; omega])
    have h3 := h1.append h2
    simp only [Nat.zero_mul, List.drop_zero, List.take_append_drop] at h3
    simpa using h3
  exact key L cs (by rw [hcl, hL]) (fun i p hp => (hR i p hp).2.2.2)
def OpnFs (BA : (H : Type) → List (DataW H) → Nat) (P : Program) (off tot : Nat) (fs : List Field) {α : Type} (f : α → List FV) (ok : α → Prop) (bulk : α → Nat) : Prop :=
 ∀ (H : Type) (enc : TypeId × Value → H) (w : World) (spare : Nat → Bool) (held : Bool) (fuel : Nat) (cs : List Value) (xs : List (DataW H × List MemPlace)), cs.length = off + tot →
  (fs.mapM fun g => DataW.trod enc P w 0 spare held fuel g.type ((cs.drop g.offset).take (P.cellsOf g.type))) = some xs →
   ∃ a : α, ok a ∧ bulk a ≤ BA H (xs.map (·.1)) ∧ All2 (FR (fun b => b < w.heap.size) w) (f a) (cs.drop off)
theorem opnFs_nil {off : Nat} : OpnFs BA P off 0 [] (fun _ : Unit => []) (fun _ => True) (fun _ => 0) := by
 intro H enc w spare held fuel cs xs hl h
 refine ⟨(), trivial, Nat.zero_le _, ?_⟩
 rw [List.drop_eq_nil_of_le (by omega)]
 exact All2.nil
theorem opnFs_cons (hB : BOk B BA) {off n tot : Nat} {g : Field} {fs : List Field} {α β : Type} {f : α → List FV} {ok : α → Prop} {bulk : α → Nat} {f' : β → List FV} {ok' : β → Prop} {bulk' : β → Nat}
  (ho : Opn B P g.type f ok bulk) (hoff : g.offset = off) (hn : P.cellsOf g.type = n) (hr : OpnFs BA P (off + n) tot fs f' ok' bulk') :
  OpnFs BA P off (n + tot) (g :: fs) (fun p : α × β => f p.1 ++ f' p.2) (fun p => ok p.1 ∧ ok' p.2) (fun p => bulk p.1 + bulk' p.2) := by
 intro H enc w spare held fuel cs xs hl h
 rw [List.mapM_cons] at h
 replace h := Option.bind_eq_some_iff.1 h
 obtain ⟨x, hx, h⟩ := h
 replace h := Option.bind_eq_some_iff.1 h
 obtain ⟨ys, hys, h⟩ := h
 obtain rfl : x :: ys = xs := Option.some.inj h
 rw [hoff, hn] at hx
 obtain ⟨a, h1, h2, h3⟩ := ho H enc w spare held fuel _ _ _ (show _ = some (x.1, x.2) from hx)
 obtain ⟨b, q1, q2, q3⟩ := hr H enc w spare held fuel cs ys (by omega) hys
 refine ⟨(a, b), ⟨h1, q1⟩, ?_, ?_⟩
 ·have := hB.cons H x.1 (ys.map (·.1))
  simp only [List.map_cons]
  omega
 ·have h4 := h3.append q3
  rw [← List.drop_drop, List.take_append_drop] at h4
  exact h4
theorem opn_struct (hB : BOk B BA) {fs : Array Field} {tot : Nat} (ht : P.underlying t = some (.struct fs)) (hts : P.cellsOf t = tot) {α : Type} {f : α → List FV} {ok : α → Prop} {bulk : α → Nat} (ho : OpnFs BA P 0 tot fs.toList f ok bulk) :
  Opn B P t f ok (fun a => bulk a + 1) := by
 intro H enc w spare held fuel cs d q hd
 cases fuel with
 | zero => simp [DataW.trod] at hd
 | succ n =>
  unfold DataW.trod at hd
  rw [ht] at hd
  simp only at hd
  split at hd
  case isFalse => simp at hd
  rename_i hl
  replace hd := Option.map_eq_some_iff.1 hd
  obtain ⟨xs, hxs, hd⟩ := hd
  simp only [Prod.mk.injEq] at hd
  obtain ⟨rfl, _⟩ := hd
  obtain ⟨a, h1, h2, h3⟩ := ho H enc w spare held n cs xs (by omega) hxs
  exact ⟨a, h1, Nat.le_trans (Nat.succ_le_succ h2) (hB.agg H _), by simpa using h3⟩
end
end Go.EW
namespace Go.EW
open Go Go.ChangeShapes Go.WideShapes Go.RowKit
section
variable {H : Type} {enc : TypeId × Value → H} {P : Program}
theorem trodAll_carry {w w' : World} {base : Nat} {spare : Nat → Bool} {held : Bool} : ∀ {ts : List TypeId} {vs : List Value} {ds : List (DataW H)} {ps : List MemPlace}, DataW.TrodAll enc P w base spare held ts vs ds ps → (∀ p ∈ ps, w.sameAt w' p) → DataW.TrodAll enc P w' base spare held ts vs ds ps
 | [], [], [], _, h, _ => h
 | _ :: _, _ :: _, _ :: _, _, ⟨p, q, ⟨n, h1⟩, h2, e⟩, hs => ⟨p, q, ⟨n, DataW.trod_carry n _ _ _ h1 (fun x hx => hs x (by rw [e]; exact List.mem_append_left _ hx))⟩, trodAll_carry h2 (fun x hx => hs x (by rw [e]; exact List.mem_append_right _ hx)), e⟩
 | [], [], _ :: _, _, h, _ => h.elim
 | [], _ :: _, _, _, h, _ => h.elim
 | _ :: _, [], _, _, h, _ => h.elim
 | _ :: _, _ :: _, [], _, h, _ => h.elim
theorem post_of_below {f : Func} {s : ChangeSpec} {apart fresh handsOn again : Bool} {W W' : World} {args : Array Value} {v : Value} {ds gs : List (DataW H)} {before pa pv : List MemPlace}
  (hW : DataW.Whole enc P f.params.toList s.vars apart W args.toList ds gs before)
  (hres : ∀ (b : Nat) (sp : Nat → Bool) (hd : Bool), DataW.TrodAll enc P W' b sp hd f.resultTypes.toList (v.resultList f.resultTypes.size) (s.fn H (ds ++ gs)).results [])
  (hargs : ∀ sp : Nat → Bool, (∀ p ∈ before, sp p.block = true) → DataW.TrodAll enc P W' 0 sp true f.params.toList args.toList (s.fn H (ds ++ gs)).args pa)
  (hvars : ∀ sp : Nat → Bool, (∀ p ∈ before, sp p.block = true) → DataW.TrodVars enc P W' sp s.vars (s.fn H (ds ++ gs)).vars pv)
  (hps : before = pa ++ pv) (hB : Below W.heap.size W W')
  (hok : ∀ (j : Nat) (t : TypeId) (r : Value), f.resultTypes[j]? = some t → (v.resultList f.resultTypes.size)[j]? = some r → Value.okWide P W' .any 0 t r) :
  s.post enc P f apart fresh handsOn again W args v W' := by
 have hold : ∀ p ∈ before, (fun b => decide (b < W.heap.size)) p.block = true := fun p hp => by simpa using hW.lt p hp
 have hlt := hW.lt
 refine ⟨ds, gs, before, [], pa, pv, hW, hres _ _ _, hargs _ hold, hvars _ hold, World.keptBut_mono (fun p hp => ⟨hp, ?_⟩) (hB.frame (· ∈ before)), fun _ => ?_⟩
 ·rw [hps, List.mem_append] at hp
  exact Or.inr hp
 ·obtain ⟨_, _, _, _, _, hz, hn⟩ := hW
  refine ⟨hok, _, _, ([] ++ pa) ++ pv, ⟨[] ++ pa, pv, trodAll_append (hargs _ (fun _ _ => rfl)) (hres _ _ _), hvars _ (fun _ _ => rfl), rfl, ?_, ?_⟩, ?_⟩
  ·intro b off hp
   have hp' : MemPlace.cell b off ∈ before := by rw [hps]; simpa using hp
   rw [hB.frozen (hlt _ hp')]
   exact hz b off hp'
  ·intro ha
   have := hn ha
   rw [hps] at this
   simpa using this
  ·intro p hp _
   rw [hps]
   simpa using hp
def Cx0 (W : World) : Cx := ⟨fun o => o < 0, fun _ => .bool false, fun b => b < W.heap.size, W⟩
theorem rel0 (W : World) (hG : GOK (Cx0 W)) : Rel W 0 ⟨fun _ => .bool false, feet (ofL []) fun _ => .bool false⟩ (fun b => b < W.heap.size) (ofL []) (Cx0 W) := by
 refine ⟨rfl, rfl, rfl, Nat.le_refl _, fun _ _ _ => rfl, fun _ _ => rfl, ?_, ?_, ?_, ?_, fun b hb => hb, fun b hb => .inl hb, hG⟩
 ·intro o x h; simp [ofL] at h
 ·intro o o' x x' b h; simp [ofL] at h
 ·intro o x b h; simp [ofL] at h
 ·intro o x b h; simp [ofL] at h
theorem arg_c {W : World} {base : Nat} {t : TypeId} {v : Value} (hok : Value.okWide P W .any base t v) (hs : ∀ fs, P.underlying t ≠ some (.struct fs)) (ha : ∀ n e, P.underlying t ≠ some (.array n e)) {x : FV}
  (h : All2 (FR (fun b => b < W.heap.size) W) [x] v.cells.toList) : VV (Cx0 W) (.v (.c (.fz x))) v := by
 have hna : ∀ cs, v ≠ .agg cs := by
  rintro cs rfl
  unfold Value.okWide at hok
  split at hok
  ·rename_i h'; exact hs _ h'
  ·rename_i h'; exact ha _ _ h'
  ·unfold Cell.okWide at hok
   split at hok <;> simp_all [Cell.ok]
 have hc : v.cells = #[v] := by
  cases v <;> first | rfl | exact absurd rfl (hna _)
 rw [hc] at h
 exact h.head
theorem arg_a {W : World} {base : Nat} {t : TypeId} {v : Value} (hok : Value.okWide P W .any base t v) (hs : (∃ fs, P.underlying t = some (.struct fs)) ∨ ∃ n e, P.underlying t = some (.array n e)) {xs : List FV}
  (h : All2 (FR (fun b => b < W.heap.size) W) xs v.cells.toList) : VV (Cx0 W) (.v (.agg (xs.map EC.fz))) v := by
 have : ∃ cs, v = .agg cs := by
  unfold Value.okWide at hok
  split at hok
  ·obtain ⟨cs, h, _⟩ := hok; exact ⟨cs, h⟩
  ·obtain ⟨cs, h, _⟩ := hok; exact ⟨cs, h⟩
  ·rename_i h1 h2
   rcases hs with ⟨fs, hs⟩ | ⟨n, e, hs⟩
   ·exact absurd hs (h1 fs)
   ·exact absurd hs (h2 n e)
 obtain ⟨cs, rfl⟩ := this
 refine ⟨cs.toList, by simp, ?_⟩
 simp only [Value.cells] at h
 exact ⟨by rw [List.length_map]; exact h.1, fun i x y hx hy => by
  rw [List.getElem?_map] at hx
  obtain ⟨z, hz, rfl⟩ := map_some' hx
  exact h.2 i z y hz hy⟩
theorem row_true (K : Kids P (· < P.types.size)) (full : ∀ t e, t < P.types.size → P.underlying t = some (.slice e) → 0 < P.cellsOf e)
  {fid : FuncId} {f : Func} {s : ChangeSpec} {apart fresh handsOn again : Bool} {W : World} {args : Array Value} {ds gs : List (DataW H)} {before : List MemPlace} {tb : TypeId}
  (hW : DataW.Whole enc P f.params.toList s.vars apart W args.toList ds gs before) (hv : s.vars = []) (hres : (s.fn H (ds ++ gs)).results = [.lit (.bool true)]) (hargs : (s.fn H (ds ++ gs)).args = ds) (hvs : (s.fn H (ds ++ gs)).vars = [])
  (hrt : f.resultTypes = #[tb]) (htb : P.underlying tb = some .bool) (hpl : ∀ t ∈ f.params.toList, t < P.types.size) (hG : GOK (Cx0 W))
  {es : List EV} (hvv : All2 (VV (Cx0 W)) es args.toList) (hE : ECalls P fid es [] fun y H' => H' = [] ∧ y = .lit (.bool true)) :
  Calls P fid args W fun e W' => ∃ v, e = .returned v ∧ s.post enc P f apart fresh handsOn again W args v W' := by
 have h := hE (fun _ => .bool false) (fun b => b < W.heap.size) W args.toList (rel0 W hG) hvv
 rw [Array.toArray_toList] at h
 refine h.mono ?_
 rintro e W' ⟨y, H', v, ρ', Φ', rfl, ⟨rfl, rfl⟩, _, hy, r⟩
 have hv1 : v = .bool true := by
  have : FR _ _ (.lit (.bool true)) v := hy
  cases this
  rfl
 subst hv1
 have hB : Below W.heap.size W W' := ⟨r.os, r.tape, r.output, r.size, fun b hb => r.block b hb (by rintro ⟨o, x, h, _⟩; simp [ofL] at h)⟩
 obtain ⟨p, q, hA, hV, hpq, _, _⟩ := id hW
 rw [hv] at hV
 have hq : q = [] := by
  cases gs with
  | nil => exact hV
  | cons _ _ => exact hV.elim
 subst hq
 rw [List.append_nil] at hpq
 subst hpq
 have hlt := hW.lt
 have hA' := trodAll_carry hA (fun x hx => hB.same (hlt x hx))
 refine ⟨_, rfl, post_of_below (pa := before) (pv := []) hW ?_ ?_ ?_ (by simp) hB ?_⟩
 ·intro b sp hd
  rw [hres, hrt]
  exact trodAll_mk1 (shut_bool htb true)
 ·intro sp hsp
  rw [hargs]
  exact DataW.TrodAll.respare K full hpl hA' hsp
 ·intro sp _
  rw [hv, hvs]
  rfl
 ·exact ok_one hrt rfl (okWide_bool_mk htb true)
end
end Go.EW
namespace Go.EW
open Go
def bcv (l : List UInt8) : List (List EC) := l.map fun b => [.fz (.lit (.int .u8 b.toNat))]
@[simp] theorem bcv_take (l : List UInt8) (n : Nat) : (bcv l).take n = bcv (l.take n) := by simp [bcv]
@[simp] theorem bcv_flat (l : List UInt8) : (bcv l).flatten = hc l := by
 induction l with
 | nil => rfl
 | cons b r ih => simp only [bcv, hc, List.map_cons, List.flatten_cons, List.cons_append, List.nil_append] at *; rw [ih]
@[simp] theorem bsv_bcv (l : List UInt8) : List.map (List.map EC.fz) (bsv l) = bcv l := by simp [bsv, bcv, cb]
@[simp] theorem bsv_ones (l : List UInt8) : List.map List.length (bsv l) = List.replicate l.length 1 := by
 induction l with
 | nil => rfl
 | cons b r ih => simp only [bsv, List.map_cons, List.length_cons, List.replicate_succ] at *; rw [ih]; rfl
@[simp] theorem bsv_ones' (l : List UInt8) : List.map (List.length ∘ List.map EC.fz) (bsv l) = List.replicate l.length 1 := by
 induction l with
 | nil => rfl
 | cons b r ih => simp only [bsv, List.map_cons, List.length_cons, List.replicate_succ] at *; rw [ih]; rfl
end Go.EW
namespace Go.EW
open Go
def fzE (o es : Nat) (xs : List (List FV)) : EC → EC
 | .row o' len => if o' = o then .fz (.sl es (xs.take len)) else .row o' len
 | c => c
def fzET (o es : Nat) (xs : List (List FV)) : TV → TV
 | .c x => .c (fzE o es xs x)
 | .agg cs => .agg (cs.map (fzE o es xs))
def fzEV (o es : Nat) (xs : List (List FV)) : EV → EV
 | .v t => .v (fzET o es xs t)
 | .tup ts => .tup (ts.map (fzET o es xs))
 | .any => .any
def fzEO (o es : Nat) (xs : List (List FV)) : EO → EO
 | .box ty cs => .box ty (cs.map (fzE o es xs))
 | x => x
attribute [simp] fzE fzET fzEV fzEO
theorem weak_frz {m n o : Nat} {T : List EV} {H : Nat → Option EO} {ty es : Nat} {xs : List (List FV)} (ho : H o = some (.row ty es xs)) :
  Weak m ⟨T, H, n⟩ ⟨T.map (fzEV o es xs), fun i => if i = o then none else (H i).map (fzEO o es xs), n⟩ := by
 rintro w0 ρ0 Φ0 a w ⟨⟨X, rfl, r, hall, hd, hU⟩, hm⟩
 obtain ⟨hu, h0, hlen, flat, how, hfl⟩ := r.obj o _ ho
 have key : ∃ Y : Cx, Y.w = X.w ∧ Y.U = X.U ∧ Y.ρ = X.ρ ∧ Rel w0 m ρ0 Φ0 (upd H o none) Y ∧ Later X Y ∧ ∀ len v, VR X (.row o len) v → FR Y.Φ Y.w (.sl es (xs.take len)) v := by
  rcases how with ⟨hl, ⟨e1, e2⟩ | ⟨g', cap, cur, e1, _, hg', hnc, hcm, hsz, htk⟩⟩
  ·refine ⟨X, rfl, rfl, rfl, r.drop (fun i x hx => by
    by_cases e : i = o
    ·subst e; rw [upd_same] at hx; simp at hx
    ·rwa [upd_ne _ _ _ e] at hx), Later.refl X, ?_⟩
   rintro len v ⟨_, a', n', cap', q1, q2, q3, rfl⟩
   have : xs = [] := List.eq_nil_of_length_eq_zero e2
   subst this
   rw [e1] at q1
   simp only [Value.slice.injEq] at q1
   obtain ⟨rfl, rfl, rfl⟩ := q1
   have : len = 0 := by omega
   subst this
   exact FR.emp es none _
  ·have hbo : hb (X.ρ o) = some g' := by rw [e1]; rfl
   obtain ⟨r', l'⟩ := r.still (w' := X.w) rfl rfl rfl rfl o _ ho g' hbo (fun _ _ => rfl)
   refine ⟨{ X with Φ := fun k => X.Φ k ∨ k = g', w := X.w }, rfl, rfl, rfl, r', l', ?_⟩
   rintro len v ⟨_, a', n', cap', q1, q2, q3, rfl⟩
   rw [e1] at q1
   simp only [Value.slice.injEq] at q1
   obtain ⟨rfl, rfl, rfl⟩ := q1
   have hlt : (xs.take len).length = len := by rw [List.length_take]; omega
   have hfx := flat_take xs len hlen (by omega)
   have hfv : (flat.take (len * es)).length = len * es := by
    rw [List.length_take, hl]
    have := Nat.mul_le_mul_right es q2
    omega
   have e3 : len = (xs.take len).length := hlt.symm
   have := FR.sl (Φ := fun k => X.Φ k ∨ k = g') (w := X.w) es (xs.take len) g' 0 cap (flat.take (len * es)) (.inr rfl) h0 (fun x hx => hlen x (List.mem_of_mem_take hx)) (by rw [hfv, hlt]) (by omega)
    (by
     intro j u hj
     rw [Nat.zero_add, cell_of_row _ _ _ cur ty (0, 0) hg']
     rw [List.getElem?_take] at hj
     split at hj
     ·rw [← htk, List.getElem?_take] at hj
      split at hj
      ·simpa using hj
      ·simp at hj
     ·simp at hj)
    (by
     intro j x u hx hu'
     rw [hfx, List.getElem?_take] at hx
     rw [List.getElem?_take] at hu'
     split at hx
     ·rename_i hj
      rw [if_pos hj] at hu'
      exact l'.fr (hfl.2 j x u hx hu')
     ·simp at hx)
   rw [hlt] at this
   exact this
 obtain ⟨Y, hYw, hYU, hYρ, rY, lY, hfr⟩ := key
 have vr : ∀ c v, VR X c v → VR Y (fzE o es xs c) v := by
  intro c v h
  cases c with
  | row o' len =>
   simp only [fzE]
   split
   ·rename_i e; subst e; exact hfr len v h
   ·exact lY.vr h
  | _ => exact lY.vr h
 have vrs : ∀ cs vs, All2 (VR X) cs vs → All2 (VR Y) (cs.map (fzE o es xs)) vs := by
  intro cs vs h
  refine ⟨by rw [List.length_map]; exact h.1, fun i x y hx hy => ?_⟩
  rw [List.getElem?_map] at hx
  obtain ⟨z, hz, rfl⟩ := map_some' hx
  exact vr z y (h.2 i z y hz hy)
 have vt : ∀ t v, VT X t v → VT Y (fzET o es xs t) v := by
  intro t v h
  cases t with
  | c x => exact vr x v h
  | agg cs => obtain ⟨vs, hv, ha⟩ := h; exact ⟨vs, hv, vrs cs vs ha⟩
 have vv : ∀ e v, VV X e v → VV Y (fzEV o es xs e) v := by
  intro e v h
  cases e with
  | v t => exact vt t v h
  | tup ts =>
   obtain ⟨vs, hv, ha⟩ := h
   refine ⟨vs, hv, by rw [List.length_map]; exact ha.1, fun i x y hx hy => ?_⟩
   rw [List.getElem?_map] at hx
   obtain ⟨z, hz, rfl⟩ := map_some' hx
   exact vt z y (ha.2 i z y hz hy)
  | any => trivial
 have live : ∀ i x, (if i = o then none else (H i).map (fzEO o es xs)) = some x → ∃ x', i ≠ o ∧ H i = some x' ∧ x = fzEO o es xs x' ∧ upd H o none i = some x' ∧ ∀ v k, ft x v k → ft x' v k := by
  intro i x hx
  split at hx
  ·simp at hx
  ·rename_i e
   obtain ⟨x', h1, rfl⟩ := map_some' hx
   exact ⟨x', e, h1, rfl, by rw [upd_ne _ _ _ e]; exact h1, fun v k hk => by cases x' <;> exact hk⟩
 refine ⟨⟨Y, hYw, ⟨rY.os, rY.tape, rY.output, rY.size, rY.block, rY.pin, ?_, ?_, ?_, ?_, rY.fro, rY.phi, rY.glob⟩, ?_, hd, fun i hi => hU i (by rw [hYU] at hi; exact hi)⟩, hm⟩
 ·intro i x hx
  obtain ⟨x', h1, h2, rfl, h4, _⟩ := live i x hx
  obtain ⟨hu', hor⟩ := rY.obj i x' h4
  refine ⟨hu', ?_⟩
  cases x' with
  | box tb cells =>
   obtain ⟨_, b, c, q1, q2, q3⟩ := r.obj i _ h2
   refine ⟨b, c, by rw [hYρ]; exact q1, by rw [hYw]; exact q2, vrs _ _ q3⟩
  | row _ _ _ => exact hor
  | mp _ _ => exact hor
  | abs _ _ => exact hor
 ·intro i i' x x' b h1 h2 e1 e2
  obtain ⟨_, _, _, _, q1, f1⟩ := live i x h1
  obtain ⟨_, _, _, _, q2, f2⟩ := live i' x' h2
  exact rY.inj i i' _ _ b q1 q2 (f1 _ _ e1) (f2 _ _ e2)
 ·intro i x b h1 e1
  obtain ⟨_, _, _, _, q1, f1⟩ := live i x h1
  exact rY.own i _ b q1 (f1 _ _ e1)
 ·intro i x b h1 e1
  obtain ⟨_, _, _, _, q1, f1⟩ := live i x h1
  exact rY.dis i _ b q1 (f1 _ _ e1)
 ·refine ⟨by rw [List.length_map]; exact hall.1, fun i x y hx hy => ?_⟩
  rw [List.getElem?_map] at hx
  obtain ⟨z, hz, rfl⟩ := map_some' hx
  exact vv z y (hall.2 i z y hz hy)
def nlE (es : Nat) : EC → EC
 | .fz (.lit (.slice none 0 0)) => .fz (.sl es [])
 | c => c
theorem nl_vr {X : Cx} {es : Nat} {c : EC} {v : Value} (h : VR X c v) : VR X (nlE es c) v := by
 unfold nlE
 split
 ·cases h; exact FR.emp es none 0
 ·exact h
end Go.EW
namespace Go.EW
open Go
theorem litB {b c : Bool} (h : b = c) : EV.v (.c (.fz (.lit (.bool b)))) = EV.lit (.bool c) := by rw [h]; rfl
end Go.EW
namespace Go.EW
open Go
theorem weak_nlB {m n o k : Nat} {T : List EV} {H : Nat → Option EO} {tb : TypeId} {cells : List EC} (es : Nat) (ho : H o = some (.box tb cells)) (hc : cells[k]? = some (.fz (.lit (.slice none 0 0)))) :
  Weak m ⟨T, H, n⟩ ⟨T, upd H o (some (.box tb (cells.set k (.fz (.sl es []))))), n⟩ := by
 rintro w0 ρ0 Φ0 a w ⟨⟨X, rfl, r, hall, hd, hU⟩, hm⟩
 have live : ∀ i x, upd H o (some (.box tb (cells.set k (.fz (.sl es []))))) i = some x → ∃ x', H i = some x' ∧ ((i = o ∧ x = .box tb (cells.set k (.fz (.sl es [])))) ∨ x' = x) ∧ ∀ v k, ft x v k → ft x' v k := by
  intro i x hx
  by_cases h : i = o
  ·subst h; rw [upd_same] at hx; exact ⟨_, ho, .inl ⟨rfl, (Option.some.inj hx).symm⟩, by obtain rfl := Option.some.inj hx; exact fun v k hk => hk⟩
  ·rw [upd_ne _ _ _ h] at hx; exact ⟨x, hx, .inr rfl, fun _ _ h => h⟩
 refine ⟨⟨X, rfl, ⟨r.os, r.tape, r.output, r.size, r.block, r.pin, ?_, ?_, ?_, ?_, r.fro, r.phi, r.glob⟩, hall, hd, hU⟩, hm⟩
 ·intro i x hx
  obtain ⟨x', hx', h, _⟩ := live i x hx
  obtain ⟨hu, hor⟩ := r.obj i x' hx'
  refine ⟨hu, ?_⟩
  rcases h with ⟨rfl, rfl⟩ | rfl
  ·rw [ho] at hx'
   obtain rfl := Option.some.inj hx'
   obtain ⟨b, c, q1, q2, q3⟩ := hor
   refine ⟨b, c, q1, q2, by simpa using q3.1, ?_⟩
   intro j y v hy hv
   rw [List.getElem?_set] at hy
   split at hy
   ·rename_i hj
    subst hj
    split at hy
    ·obtain rfl := Option.some.inj hy
     have h : FR X.Φ X.w (.lit (.slice none 0 0)) v := q3.2 k _ v hc hv
     cases h
     exact FR.emp es none 0
    ·simp at hy
   ·exact q3.2 j y v hy hv
  ·exact hor
 ·intro i i' x x' b h1 h2 e1 e2
  obtain ⟨_, q1, _, f1⟩ := live i x h1
  obtain ⟨_, q2, _, f2⟩ := live i' x' h2
  exact r.inj i i' _ _ b q1 q2 (f1 _ _ e1) (f2 _ _ e2)
 ·intro i x b h1 e1
  obtain ⟨_, q1, _, f1⟩ := live i x h1
  exact r.own i _ b q1 (f1 _ _ e1)
 ·intro i x b h1 e1
  obtain ⟨_, q1, _, f1⟩ := live i x h1
  exact r.dis i _ b q1 (f1 _ _ e1)
end Go.EW
namespace Go.EW
open Go
theorem ecalls_nil {P : Program} {f : FuncId} {es : Nat} {rest : List EV} {H : List EO} {post : EV → List (Option EO) → Prop} (h : ECalls P f (.v (.c (.fz (.sl es []))) :: rest) H post) : ECalls P f (.v (.c (.fz (.lit (.slice none 0 0)))) :: rest) H post := by
 intro ρ Φ w vals r ha
 refine h ρ Φ w vals r ?_
 obtain ⟨u, us, rfl, h1, h2⟩ := ha.cons_left
 refine All2.cons ?_ h2
 have h1' : FR Φ w (.lit (.slice none 0 0)) u := h1
 cases h1'
 exact FR.emp es none 0
theorem ecalls_nilB {P : Program} {f : FuncId} {args : List EV} {H : List EO} {post : EV → List (Option EO) → Prop} (o k : Nat) {tb ty es : Nat} {cells : List EC} (ho : H[o]? = some (.box tb cells)) (hc : cells[k]? = some (.fz (.lit (.slice none 0 0)))) (he : 0 < es)
  (h : ECalls P f args (H.set o (.box tb (cells.set k (.row H.length 0))) ++ [.row ty es []]) post) : ECalls P f args H post := by
 have hol : o < H.length := lt_of_get ho
 intro ρ Φ w vals r ha
 have hw := weak_nil (m := H.length) (n := H.length) (T := args) (H := ofL H) (ty := ty) (es := es) (tb := tb) (cells := cells) (o := o) (k := k) ho hc he
 obtain ⟨⟨X, hX, r1, a1, _, hU⟩, _⟩ := hw w ⟨ρ, feet (ofL H) ρ⟩ Φ { tmps := vals.toArray, defers := [] } w ⟨⟨⟨fun o => o < H.length, ρ, Φ, w⟩, rfl, r, by simpa using ha, rfl, fun i hi => hi⟩, Nat.le_refl _⟩
 obtain ⟨XU, Xρ, XΦ, Xw⟩ := X
 obtain rfl : Xw = w := hX
 have hH : ∀ i, ofL (H.set o (.box tb (cells.set k (.row H.length 0))) ++ [.row ty es []]) i = upd (upd (ofL H) o (some (.box tb (cells.set k (.row H.length 0))))) H.length (some (.row ty es [])) i := by
  intro i
  unfold ofL
  rw [List.getElem?_append]
  simp only [List.length_set]
  by_cases h1 : i < H.length
  ·rw [if_pos h1, upd_ne _ _ _ (by omega), List.getElem?_set]
   by_cases h2 : o = i
   ·subst h2; rw [if_pos rfl, if_pos h1, upd_same]
   ·rw [if_neg h2, upd_ne _ _ _ (fun e => h2 e.symm)]
  ·rw [if_neg h1]
   by_cases h2 : i = H.length
   ·subst h2; rw [upd_same]; simp
   ·rw [upd_ne _ _ _ h2, upd_ne _ _ _ (by omega), List.getElem?_eq_none (l := H) (by omega), List.getElem?_eq_none (by simp; omega)]
 have hl : Later ⟨XU, Xρ, XΦ, Xw⟩ ⟨fun o => o < H.length + 1, Xρ, XΦ, Xw⟩ := ⟨fun i hi => hU i hi, fun _ _ => rfl, fun _ h => h, fun _ _ => rfl⟩
 have hL2 : (H.set o (EO.box tb (cells.set k (.row H.length 0))) ++ [EO.row ty es []]).length = H.length + 1 := by simp
 have rY : Rel Xw (H.length + 1) ⟨Xρ, feet (ofL (H.set o (.box tb (cells.set k (.row H.length 0))) ++ [.row ty es []])) Xρ⟩ XΦ (ofL (H.set o (.box tb (cells.set k (.row H.length 0))) ++ [.row ty es []])) ⟨fun o => o < H.length + 1, Xρ, XΦ, Xw⟩ := by
  refine ⟨rfl, rfl, rfl, Nat.le_refl _, fun _ _ _ => rfl, fun _ _ => rfl, ?_, ?_, ?_, ?_, r1.fro, fun b hb => .inl hb, r1.glob⟩
  ·intro i x hx
   rw [hH] at hx
   obtain ⟨q1, q2⟩ := r1.obj i x hx
   exact ⟨hU i q1, q2.later hl fun _ _ => rfl⟩
  ·intro i i' x x' b h1 h2
   rw [hH] at h1 h2
   exact r1.inj i i' x x' b h1 h2
  ·intro i x b h1 h2
   exact .inr ⟨i, x, h1, h2⟩
  ·intro i x b h1
   rw [hH] at h1
   exact r1.dis i x b h1
 have ownL : ∀ b, feet (ofL (H.set o (.box tb (cells.set k (.row H.length 0))) ++ [.row ty es []])) Xρ b → Xw.heap.size ≤ b ∨ feet (ofL H) ρ b := by
  rintro b ⟨i, x, h1, h2⟩
  rw [hH] at h1
  exact r1.own i x b h1 h2
 have h' := h Xρ XΦ Xw vals (by rw [hL2]; exact rY) (by rw [hL2]; exact (by simpa using a1 : All2 (VV ⟨XU, Xρ, XΦ, Xw⟩) args vals).mono fun _ _ => hl.vv)
 refine h'.mono ?_
 rintro e w' ⟨y, H', v, ρ', Φ', he', hp, hlen, hv, hr⟩
 rw [hL2] at hlen hr
 refine ⟨y, H', v, ρ', Φ', he', hp, by omega, hv, ?_⟩
 refine ⟨hr.os, hr.tape, hr.output, hr.size, ?_, ?_, hr.obj, hr.inj, ?_, hr.dis, hr.fro, ?_, hr.glob⟩
 ·intro b hb1 hn
  exact hr.block b hb1 fun e' => (ownL b e').elim (fun h => by omega) hn
 ·intro i hi
  exact (hr.pin i (by omega)).trans (r1.pin i hi)
 ·intro i x b h1 h2
  rcases hr.own i x b h1 h2 with h3 | h3
  ·exact .inl h3
  ·exact ownL b h3
 ·intro b hb1
  rcases hr.phi b hb1 with h3 | h3 | h3
  ·exact r1.phi b h3
  ·exact .inr (.inl h3)
  ·exact .inr (ownL b h3)
end Go.EW
namespace Go.Proofs.YtddcceahaigodaaGreatDoor
open Go Go.EW
set_option linter.unusedSimpArgs false
theorem bok : BOk (fun H d => Rows.uptoBulk (H := H) d) (fun H ds => Rows.uptoBulkAll (H := H) ds) where
 lit := by intro H x; cases x <;> simp [Rows.uptoBulk]
 str := by intro H l; simp [Rows.uptoBulk]
 nil := by intro H; simp [Rows.uptoBulk]
 sl := by intro H es sp; simp only [Rows.uptoBulk]; omega
 agg := by intro H ps; simp [Rows.uptoBulk]
 cons := by intro H d r; simp [Rows.uptoBulkAll]
theorem kids : Kids Tryz.prog (· < Tryz.prog.types.size) := kids_rows (by kernel_rfl) (by kernel_rfl)
theorem full : ∀ t e, t < Tryz.prog.types.size → Tryz.prog.underlying t = some (.slice e) → 0 < Tryz.prog.cellsOf e := slices_full_of Tryz.prog (by kernel_rfl)
theorem own : ownKnob Tryz.prog.godebug = none := by kernel_rfl
abbrev BB : (H : Type) → DataW H → Nat := fun H d => Rows.uptoBulk (H := H) d
abbrev BBA : (H : Type) → List (DataW H) → Nat := fun H ds => Rows.uptoBulkAll (H := H) ds
theorem opn_u8 : Opn BB Tryz.prog 5 cb (fun _ : UInt8 => True) (fun _ => 1) :=
 (opn_int bok (k := .u8) (by kernel_rfl)).map (fun n => UInt8.ofNat n.toNat) (by
  intro n h
  have := bounds_u8 h
  simp only [cb]
  have e : ((UInt8.ofNat n.toNat).toNat : Int) = n := by simp; omega
  rw [e]) (fun _ _ => trivial) (fun _ _ => Nat.le_refl _)
theorem sumB_one {α : Type} (l : List α) : sumB (fun _ => 1) l = l.length := by
 induction l with
 | nil => rfl
 | cons x r ih => simp only [sumB, ih, List.length_cons]; omega
theorem opn_bytes : Opn BB Tryz.prog 124 (fun l : List UInt8 => [FV.sl 1 (bsv l)]) (fun _ => True) (fun l => l.length + 1) :=
 (opn_slice bok (e := 5) (es := 1) (by kernel_rfl) (by kernel_rfl) (by omega) opn_u8).map id (fun _ _ => rfl) (fun _ _ => trivial) (fun l _ => by rw [sumB_one]; exact Nat.le_refl _)
theorem hf_flat (l : List UInt8) : hf l = l.flatMap cb := by
 induction l with
 | nil => rfl
 | cons x r ih => simp only [hf, List.map_cons, List.flatMap_cons] at *; rw [← ih]; rfl
theorem opn_hash : Opn BB Tryz.prog 23 hf (fun l : List UInt8 => l.length = 32) (fun _ => 1) :=
 (opn_array bok (e := 5) (es := 1) (n := 32) (by kernel_rfl) (by kernel_rfl) (by kernel_rfl) opn_u8).map id (fun l _ => hf_flat l) (fun _ h => h.2) (fun _ _ => by omega)
theorem opn_i64 : Opn BB Tryz.prog 3 (fun n : Int => [FV.lit (.int .i64 n)]) (fun n => -9223372036854775808 ≤ n ∧ n ≤ 9223372036854775807) (fun _ => 1) :=
 (opn_int bok (k := .i64) (by kernel_rfl)).map id (fun _ _ => rfl) (fun _ h => bounds_i64 h) (fun _ _ => Nat.le_refl _)
end Go.Proofs.YtddcceahaigodaaGreatDoor
namespace Go.Proofs.YtddcceahaigodaaGreatDoor
open Go Go.EW Go.ChangeShapes Go.WideShapes Go.RowKit
theorem Dr.et : Tryz.prog.globalNamed "errors.errorType" = some 0 := by kernel_rfl
theorem Dr.rt : (Tryz.prog.cutTypes.find? (·.1 == "internal/reflectlite.rtype")).map (·.2) = some 252 := by kernel_rfl
theorem Dr.size : Tryz.prog.types.size = 346 := by kernel_rfl
theorem Dr.oneRow : ((List.range 346).filter fun t => Tryz.prog.rowNamed t [101, 114, 114, 111, 114]) = [51] := by kernel_rfl
theorem Dr.og : Tryz.prog.globalNamed "bayou/blake.order" = some 1 := by kernel_rfl
theorem Dr.ot : (Tryz.prog.globals[1]?).map (·.type) = some 306 := by kernel_rfl
theorem Dr.o1 : Tryz.prog.underlying 306 = some (.array 10 305) := by kernel_rfl
theorem Dr.o2 : Tryz.prog.underlying 305 = some (.array 16 5) := by kernel_rfl
theorem Dr.o3 : Tryz.prog.underlying 5 = some (.int .u8) := by kernel_rfl
theorem Dr.c2 : Tryz.prog.cellsOf 305 = 16 := by kernel_rfl
theorem Dr.c3 : Tryz.prog.cellsOf 5 = 1 := by kernel_rfl
def ordRow (i : Nat) : List (DataW Unit) := match (Rows.laid_bayou_blake_order : DataW Unit) with
 | .agg rs => match rs[i]? with
  | some (.agg ps) => ps
  | _ => []
 | _ => []
def ordRows : List (DataW Unit) := match (Rows.laid_bayou_blake_order : DataW Unit) with
 | .agg rs => rs
 | _ => []
def ordNum : Option (DataW Unit) → Option Int
 | some (.lit (.int .u8 n)) => some n
 | _ => none
theorem ord_eq : (Rows.laid_bayou_blake_order : DataW Unit) = .agg ordRows := rfl
theorem ord_row : ∀ i, i < 10 → ordRows[i]? = some (.agg (ordRow i)) := by
 intro i hi
 match i, hi with
 | 0, _ => rfl
 | 1, _ => rfl
 | 2, _ => rfl
 | 3, _ => rfl
 | 4, _ => rfl
 | 5, _ => rfl
 | 6, _ => rfl
 | 7, _ => rfl
 | 8, _ => rfl
 | 9, _ => rfl
 | n + 10, h => omega
theorem ord_num : ∀ i, i < 10 → ∀ j, j < 16 → ordNum (ordRow i)[j]? = ordN[i * 16 + j]? := by decide +kernel
theorem order_cells {W : World} {fuel : Nat} {cs : List Value} {p : List MemPlace} (h : DataW.trod (fun _ => ()) Tryz.prog W 0 (fun _ => true) false fuel 306 cs = some (Rows.laid_bayou_blake_order, p)) :
  ∀ i, i < 10 → ∀ j, j < 16 → ∀ n, ordN[i * 16 + j]? = some n → cs[i * 16 + j]? = some (.int .u8 n) := by
 obtain ⟨xs, m, _, hx, _, hxl, hrow⟩ := DataW.trod_array Dr.o1 h
 simp only [Prod.mk.injEq, ord_eq, DataW.agg.injEq] at hx
 intro i hi j hj n hn
 have h1 := hrow i hi
 have h2 : (xs.map (·.1))[i]? = some (.agg (ordRow i)) := by rw [← hx.1]; exact ord_row i hi
 rw [List.getElem?_map, Option.map_eq_some_iff] at h2
 obtain ⟨⟨d, pl⟩, hxi, rfl⟩ := h2
 rw [hxi, Dr.c2] at h1
 obtain ⟨ys, m', _, hy, _, hyl, hcell⟩ := DataW.trod_array Dr.o2 h1
 simp only [Prod.mk.injEq, DataW.agg.injEq] at hy
 have h3 := hcell j hj
 obtain ⟨⟨d', pl'⟩, hyj⟩ : ∃ y, ys[j]? = some y := ⟨ys[j]'(by omega), by simp [hyl, hj]⟩
 rw [hyj, Dr.c3] at h3
 obtain ⟨k, hk1, hk2, _⟩ := DataW.trod_int Dr.o3 h3
 simp only [Prod.mk.injEq] at hk2
 have h4 := ord_num i hi j hj
 have h5 : (ordRow i)[j]? = some (.lit (.int .u8 k)) := by rw [hy.1, List.getElem?_map, hyj, ← hk2.1]; rfl
 rw [h5, hn] at h4
 have h6 : k = n := Option.some.inj h4
 rw [h6] at hk1
 have h7 : (List.take 1 (List.drop (j * 1) (List.take 16 (List.drop (i * 16) cs))))[0]? = some (.int .u8 n) := by rw [hk1]; rfl
 rw [List.getElem?_take, if_pos (by omega), List.getElem?_drop, List.getElem?_take, if_pos (by omega), List.getElem?_drop] at h7
 simpa using h7
theorem ordN_len' : ordN.length = 160 := by decide +kernel
theorem order_glob {W : World} {cs : Array Value} {fuel : Nat} {p : List MemPlace} (hv : W.var? Tryz.prog "bayou/blake.order" = some cs) (h : DataW.trod (fun _ => ()) Tryz.prog W 0 (fun _ => true) false fuel 306 cs.toList = some (Rows.laid_bayou_blake_order, p)) :
  ∀ (j : Nat) (n : Int), ordN[j]? = some n → W.cell? ⟨1, j, none⟩ = some (.int .u8 n) := by
 intro j n hn
 have hj : j < 160 := by
  rw [← ordN_len']
  exact lt_of_get hn
 have h1 := order_cells h (j / 16) (by omega) (j % 16) (by omega) n (by rw [show j / 16 * 16 + j % 16 = j by omega]; exact hn)
 rw [show j / 16 * 16 + j % 16 = j by omega] at h1
 have h2 := World.var?_cell Dr.og hv j
 rw [h2]
 simpa using h1
theorem ord_of_met {W : World} (h : laidMet Tryz.prog [("bayou/blake.order", Rows.laid_bayou_blake_order)] W) : ∀ (j : Nat) (n : Int), ordN[j]? = some n → W.cell? ⟨1, j, none⟩ = some (.int .u8 n) := by
 obtain ⟨ps, ⟨g, t, cs, fuel, p, q, e1, e2, e3, e4, _⟩, _⟩ := h
 obtain rfl := Option.some.inj (Dr.og.symm.trans e1)
 obtain rfl := Option.some.inj (Dr.ot.symm.trans e2)
 exact order_glob e3 e4
abbrev Lai : List (String × DataW Unit) := [("errors.errorType", Rows.laid_errors_errorType), ("bayou/blake.order", Rows.laid_bayou_blake_order)]
def ordC : Array Value := (ordN.map fun n => Value.int .u8 n).toArray
theorem handle_of_laid {W : World} (h : laidMetH Tryz.prog Lai W) : W.cell? ⟨0, 0, none⟩ = some (.iface 252 (.agg #[.pointer (some ⟨2, 51, none⟩)])) := by
 have h' : laidMet Tryz.prog [("bayou/blake.order", Rows.laid_bayou_blake_order)] W ∧ handlesMet Tryz.prog [("errors.errorType", Rows.laid_errors_errorType)] W := h
 obtain ⟨name, u, ty, e1, e2, e3, e4, e5⟩ := h'.2 _ (List.mem_singleton.2 rfl)
 have en : name = [101, 114, 114, 111, 114] := (Option.some.inj e1).symm
 subst en
 obtain rfl := Option.some.inj (Dr.rt.symm.trans e2)
 have hm : ty ∈ (List.range 346).filter fun t => Tryz.prog.rowNamed t [101, 114, 114, 111, 114] := List.mem_filter.2 ⟨List.mem_range.2 (by rw [← Dr.size]; exact e3), e4⟩
 rw [Dr.oneRow] at hm
 obtain rfl := List.mem_singleton.1 hm
 have hh : typeHandle Tryz.prog 51 = .pointer (some ⟨2, 51, none⟩) := by kernel_rfl
 rw [hh] at e5
 simpa using World.var?_cell Dr.et e5 0
theorem lt_of_cell {W : World} {b o : Nat} {v : Value} (hc : W.cell? ⟨b, o, none⟩ = some v) : b < W.heap.size := by
 rcases Nat.lt_or_ge b W.heap.size with h | h
 ·exact h
 ·simp [World.cell?, Array.getElem?_eq_none h] at hc
theorem glob_of_laid {W : World} (h : laidMetH Tryz.prog Lai W) : GOK (Cx0 W) := by
 have hc := handle_of_laid h
 have h' : laidMet Tryz.prog [("bayou/blake.order", Rows.laid_bayou_blake_order)] W ∧ handlesMet Tryz.prog [("errors.errorType", Rows.laid_errors_errorType)] W := h
 have ho := ord_of_met h'.1
 intro g cs hg
 unfold gcells at hg
 split at hg
 ·obtain rfl := Option.some.inj hg
  refine ⟨lt_of_cell hc, ?_⟩
  intro j x hx
  cases j with
  | zero =>
   simp only [List.getElem?_cons_zero, Option.some.injEq] at hx
   subst hx
   exact ⟨_, hc, FR.lit _ rfl⟩
  | succ j => simp at hx
 ·obtain rfl := Option.some.inj hg
  refine ⟨lt_of_cell (ho 0 0 rfl), ?_⟩
  intro j x hx
  rw [List.getElem?_map, Option.map_eq_some_iff] at hx
  obtain ⟨n, hn, rfl⟩ := hx
  exact ⟨_, ho j n hn, FR.lit _ rfl⟩
 ·simp at hg
noncomputable def laidWorld (os : Os) : World :=
 let w0 := World.holding Tryz.prog os ⟨#[], #[], []⟩
 { w0 with heap := (w0.heap.modify 0 fun
   | .cells _ t frozen => .cells #[.iface 252 (.agg #[.pointer (some ⟨2, 51, none⟩)])] t frozen
   | o => o).modify 1 fun
   | .cells _ t frozen => .cells ordC t frozen
   | o => o }
end Go.Proofs.YtddcceahaigodaaGreatDoor
