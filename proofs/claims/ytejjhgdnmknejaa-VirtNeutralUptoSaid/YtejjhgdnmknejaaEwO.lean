/- Operations and regions: from the model's to E-operations, sound in whatever order. -/
import Derived.Test.YtejjhgdnmknejaaEwN
namespace Go.EW
open Go

def cok1 (P : Program) (o : Oper) : Option EK :=
  match o.op with
  | .store t p x => (sz P t).map fun n => .sto n (opd p) (opd x)
  | .call { callee := .builtin .append, args := args, argTypes := ts } => match args.toList, ts.toList with
    | [s, x], [t, t'] => if t = t' then match P.underlying t with
      | some (.slice e) => (P.info? e).bind fun i => (zer P e).bind fun z => if z.length = i.size ∧ 0 < i.size then some (.app e i.size i.bytes (opd s) (opd x)) else none
      | _ => none
      else none
    | _, _ => none
  | .call { callee := .builtin .copy, args := args, argTypes := ts } => match args.toList, ts.toList.head? with
    | [d, s], some t => match P.underlying t with
      | some (.slice e) => (sz P e).map fun es => .cpy es (opd d) (opd s)
      | _ => none
    | _, _ => none
  | .call { callee := .value (.func f), args := args, argTypes := _ } => if bodyOK P f = true then some (.call f (args.toList.map opd)) else none
  | .call { callee := .value (.tmp t), args := args, argTypes := _ } => some (.clo (.t t) (args.toList.map opd))
  | _ => (cop P o).map .q
/-- A slice held against nil; bytes converted to bytes. -/
def cnil (P : Program) (o : Oper) : Option EK :=
  match o.op with
  | .binOp op t x (.const (.slice none 0 0)) _ => match P.underlying t with
    | some (.slice _) => match op with
      | .eql => some (.nild false (opd x))
      | .neq => some (.nild true (opd x))
      | _ => none
    | _ => none
  | .convert s d x => if s = d then match P.underlying d with
    | some (.slice e) => match P.underlying e with
      | some (.int .u8) => some (.mrk (opd x))
      | _ => none
    | _ => none
    else none
  | _ => none
def cok (P : Program) (o : Oper) : Option EK :=
  match cnil P o with
  | some k => some k
  | none => cok1 P o
theorem cok_1 {P : Program} {o : Oper} {k : EK} (h : cok P o = some k) (hk : ∀ neg x, k ≠ .nild neg x) (hk2 : ∀ x, k ≠ .mrk x) : cok1 P o = some k := by
  unfold cok at h
  split at h
  · rename_i k' hn
    obtain rfl := Option.some.inj h
    unfold cnil at hn
    split at hn
    · split at hn
      · split at hn <;> simp at hn <;> exact absurd hn.symm (hk _ _)
      · simp at hn
    · split at hn
      · split at hn
        · split at hn <;> simp at hn <;> exact absurd hn.symm (hk2 _)
        · simp at hn
      · simp at hn
    · simp at hn
  · exact h
theorem cok1_nild {P : Program} {o : Oper} {neg : Bool} {x : Opd} : cok1 P o ≠ some (.nild neg x) := by
  intro h
  unfold cok1 at h
  split at h
  · simp at h
  · split at h
    · split at h
      · split at h
        · replace h := Option.bind_eq_some_iff.1 h; obtain ⟨i, _, h⟩ := h
          replace h := Option.bind_eq_some_iff.1 h; obtain ⟨z, _, h⟩ := h
          split at h <;> simp at h
        · simp at h
      · simp at h
    · simp at h
  · split at h
    · split at h
      · simp at h
      · simp at h
    · simp at h
  · split at h <;> simp at h
  · simp at h
  · replace h := Option.map_eq_some_iff.1 h; obtain ⟨q', _, h2⟩ := h
    simp at h2
theorem cok1_mrk {P : Program} {o : Oper} {x : Opd} : cok1 P o ≠ some (.mrk x) := by
  intro h
  unfold cok1 at h
  split at h
  · simp at h
  · split at h
    · split at h
      · split at h
        · replace h := Option.bind_eq_some_iff.1 h; obtain ⟨i, _, h⟩ := h
          replace h := Option.bind_eq_some_iff.1 h; obtain ⟨z, _, h⟩ := h
          split at h <;> simp at h
        · simp at h
      · simp at h
    · simp at h
  · split at h
    · split at h
      · simp at h
      · simp at h
    · simp at h
  · split at h <;> simp at h
  · simp at h
  · replace h := Option.map_eq_some_iff.1 h; obtain ⟨q', _, h2⟩ := h
    simp at h2
theorem cok_nild {P : Program} {o : Oper} {neg : Bool} {x : Opd} (h : cok P o = some (.nild neg x)) :
    ∃ op t e y t', o.op = .binOp op t y (.const (.slice none 0 0)) t' ∧ P.underlying t = some (.slice e) ∧ ((op = .eql ∧ neg = false) ∨ (op = .neq ∧ neg = true)) ∧ x = opd y := by
  unfold cok at h
  split at h
  · rename_i k' hn
    obtain rfl := Option.some.inj h
    unfold cnil at hn
    split at hn
    · rename_i op t y t' ho
      split at hn
      · rename_i e hu
        split at hn
        · simp at hn; exact ⟨_, t, e, y, t', ho, hu, .inl ⟨rfl, hn.1⟩, hn.2.symm⟩
        · simp at hn; exact ⟨_, t, e, y, t', ho, hu, .inr ⟨rfl, hn.1⟩, hn.2.symm⟩
        · simp at hn
      · simp at hn
    · split at hn
      · split at hn
        · split at hn <;> simp at hn
        · simp at hn
      · simp at hn
    · simp at hn
  · exact absurd h cok1_nild
theorem cok_mrk {P : Program} {o : Oper} {x : Opd} (h : cok P o = some (.mrk x)) :
    ∃ t e y, o.op = .convert t t y ∧ P.underlying t = some (.slice e) ∧ P.underlying e = some (.int .u8) ∧ x = opd y := by
  unfold cok at h
  split at h
  · rename_i k' hn
    obtain rfl := Option.some.inj h
    unfold cnil at hn
    split at hn
    · split at hn
      · split at hn <;> simp at hn
      · simp at hn
    · rename_i s d y ho
      split at hn
      · rename_i hsd
        subst hsd
        split at hn
        · rename_i e hu
          split at hn
          · rename_i he
            simp at hn
            exact ⟨_, e, y, ho, hu, he, hn.symm⟩
          · simp at hn
        · simp at hn
      · simp at hn
    · simp at hn
  · exact absurd h cok1_mrk

def gdOf (ops : Array Oper) : Option (Nat × Bool) → Option (Option (Nat × Bool))
  | none => some none
  | some (j, want) => ((ops[j]?).bind (·.dst)).map fun t => some (t, want)

/-- A slice literal that is made to be one's own: an empty one; one that is converted at once; a row of words; one that is handed as the last of three arguments, of the first's and the result's own type (slices.Insert). -/
def rowLit (P : Program) (ops : Array Oper) (o : Oper) : Bool :=
  match o.op with
  | .buildSlice st len _ => len == 0 || (match P.underlying st with
    | some (.slice e) => (match P.underlying e with
      | some (.int .u32) => true
      | _ => false)
    | _ => false) || ops.any fun o' => match o'.op with
    | .convert a b (.tmp d) => a == b && o.dst == some d
    | Op.call c => c.args.size == 3 && c.argTypes[0]? == some o'.type && c.argTypes[2]? == some o'.type && (match (c.args[2]? : Option Operand) with
      | some (Operand.tmp d) => o.dst == some d
      | _ => false)
    | _ => false
  | _ => false
def hasSl (P : Program) (t : TypeId) : Bool := match zer P t with
  | some z => z.any fun v => match v with
    | .slice _ _ _ => true
    | _ => false
  | none => false
/-- Is a slice laid into a row, or stored? -/
def nest (P : Program) (o : Oper) : Bool :=
  match o.op with
  | .buildSlice t _ _ => match P.underlying t with
    | some (.slice e) => hasSl P e
    | _ => false
  | .store t _ _ => hasSl P t
  | _ => false
/-- 'nf': rows that are laid into rows are not frozen at it (they are frozen already). -/
def cokA (P : Program) (nf : Bool) (ops : Array Oper) (o : Oper) : Option EK := if rowLit P ops o then (copR P o).map .q else (cok P o).map fun k => if nest P o && !nf then .fz k else k
def mkE (P : Program) (nf : Bool) (ops : Array Oper) (i : Nat) (uz : List Nat) : Option EOp :=
  (ops[i]?).bind fun o => (cokA P nf ops o).bind fun k => (gdOf ops o.guard).map fun g => { i := i, dst := o.dst, gd := g, k := k, uz := uz }

def Link (P : Program) (ops : Array Oper) (e : EOp) : Prop := ∃ o, ops[e.i]? = some o ∧ (cok P o = some e.k ∨ (∃ q, copR P o = some q ∧ e.k = .q q) ∨ ∃ k, cok P o = some k ∧ e.k = .fz k) ∧ o.dst = e.dst ∧ gdOf ops o.guard = some e.gd

theorem mkE_link {P : Program} {nf : Bool} {ops : Array Oper} {i : Nat} {uz : List Nat} {e : EOp} (h : mkE P nf ops i uz = some e) : Link P ops e ∧ e.i = i ∧ e.uz = uz := by
  unfold mkE at h
  replace h := bind_some' h; obtain ⟨o, ho, h⟩ := h
  replace h := bind_some' h; obtain ⟨k, hk, h⟩ := h
  replace h := map_some' h; obtain ⟨g, hg, rfl⟩ := h
  refine ⟨⟨o, ho, ?_, rfl, hg⟩, rfl, rfl⟩
  unfold cokA at hk
  split at hk
  · replace hk := map_some' hk; obtain ⟨q, hq, rfl⟩ := hk
    exact .inr (.inl ⟨q, hq, rfl⟩)
  · replace hk := map_some' hk; obtain ⟨k', hk', rfl⟩ := hk
    by_cases hn : (nest P o && !nf) = true
    · rw [if_pos hn]; exact .inr (.inr ⟨k', hk', rfl⟩)
    · rw [if_neg hn]; exact .inl hk'

/-- An E-state stands for a frame and a world. -/
def RR (w0 : World) (m : Nat) (ρ0 : Nat → Value) (Φ0 : Nat → Prop) (Us : Nat → Prop) (T : List EV) (H : Nat → Option EO) (a : Act) (w : World) : Prop :=
  ∃ X : Cx, X.w = w ∧ Rel w0 m ρ0 Φ0 H X ∧ All2 (VV X) T a.tmps.toList ∧ a.defers = [] ∧ ∀ o, X.U o → Us o

section
variable {P : Program} {w0 : World} {m : Nat} {ρ0 : Nat → Value} {Φ0 : Nat → Prop} {H : Nat → Option EO} {X : Cx} {T : List EV} {a : Act} {w : World} {ops : Array Oper} {Q : Exit → Act → World → Prop}

theorem put_all {X : Cx} {T : List EV} {a : Act} (h : All2 (VV X) T a.tmps.toList) (d : Option Nat) {v : EV} {u : Value} (hv : VV X v u) : All2 (VV X) (setD T d v) (a.put d u).tmps.toList := by
  cases d with
  | none => exact h
  | some d =>
    have : (a.put (some d) u).tmps.toList = a.tmps.toList.set d u := by simp [Act.put]
    rw [this]
    exact h.set d hv
theorem put_defers {a : Act} (d : Option Nat) (u : Value) : (a.put d u).defers = a.defers := by cases d <;> rfl

theorem nth_get {T : List EV} {t : Nat} {e : EV} (h : nth T t = e) (hne : e ≠ .any) : T[t]? = some e := by
  rw [nth_eq] at h
  cases ht : T[t]? with
  | none => rw [ht] at h; exact absurd h.symm hne
  | some x => rw [ht] at h; simp at h; rw [h]

theorem wanted_of (hall : All2 (VV X) T a.tmps.toList) {o : Oper} {gd : Option (Nat × Bool)} (hg : gdOf ops o.guard = some gd) {b : Bool} (h : gdOK gd T = some b) : Region.wanted o (yielded ops a.tmps) = b := by
  unfold gdOf at hg
  split at hg
  · rename_i hgo
    obtain rfl := Option.some.inj hg
    simp only [gdOK, Option.some.injEq] at h
    subst h
    simp [Region.wanted, hgo]
  · rename_i j want hgo
    replace hg := map_some' hg; obtain ⟨t, ht, rfl⟩ := hg
    simp only [gdOK] at h
    unfold Region.wanted
    rw [hgo]
    simp only
    unfold yielded
    rw [ht]
    simp only [Option.bind_some]
    split at h
    · rename_i c hn
      have hT := nth_get hn (by simp)
      obtain ⟨u, hu, hv⟩ := hall.get hT
      cases hv
      have : a.tmps[t]? = some (.bool c) := by simpa using hu
      rw [this]
      simp only [Option.some.injEq] at h ⊢
      rw [← h]
      cases c <;> cases want <;> rfl
    · rename_i hn
      have hT := nth_get hn (by simp)
      obtain ⟨u, hu, hv⟩ := hall.get hT
      obtain ⟨vs, hvs, hal⟩ := hv
      have : a.tmps[t]? = some u := by simpa using hu
      rw [this, hvs]
      simp only [Option.some.injEq] at h ⊢
      rw [← h]
      rfl
    · simp at h

theorem run_callFunc {f : FuncId} (hf : bodyOK P f = true) (args : Array Value) (w : World) : (callFunc f args).run P w = .ok (.enter f args) w := by
  unfold bodyOK at hf
  split at hf
  · rename_i fn hfn
    simp only [Bool.and_eq_true, bne_iff_ne, ne_eq] at hf
    have h2 : ¬ fn.body = none := by intro h; rw [h] at hf; simp at hf
    simp [callFunc, hfn, hf.2, h2]
  · simp at hf

theorem toList_map_eval {args : Array Operand} {a : Act} : (args.map a.eval) = ((args.toList.map a.eval)).toArray := by cases args; simp

theorem args_all (hall : All2 (VV X) T a.tmps.toList) : ∀ (xs : List Operand), All2 (VV X) ((xs.map opd).map (ev T)) (xs.map a.eval)
  | [] => All2.nil
  | x :: r => All2.cons (VV_ev hall x) (args_all hall r)

theorem call_step {T0 : List EV} (hall0 : All2 (VV X) T0 a.tmps.toList) {f : FuncId} {args : List EV} {vals : List Value} {base : Nat} {ok : Nat → Prop} {Us : Nat → Prop} {o : Oper} {e : EOp}
    (hrun : (execOp a.eval o).run P X.w = .ok (.enter f vals.toArray) X.w) (hdst : o.dst = e.dst) (r : Rel w0 m ρ0 Φ0 H X) (_hall : All2 (VV X) T a.tmps.toList) (hd : a.defers = []) (hU : ∀ o, X.U o → Us o)
    (hv : All2 (VV X) args vals) (hfree : ∀ o, base ≤ o → o < base + 16 → ¬ Us o) (hm : m ≤ base) {K' : List EV → (Nat → Option EO) → Prop}
    (h : ECallAt P f args H base ok (fun v H' => K' (setD T0 e.dst v) H')) :
    o.wp P a X.w (fun a' w' => ∃ T' H', K' T' H' ∧ RR w0 m ρ0 Φ0 (fun o => Us o ∨ (base ≤ o ∧ o < base + 16)) T' H' a' w') Q := by
  obtain ⟨ids, args', Hc, post, h1, h2, h3, _, _, h6, h7⟩ := h
  have key := call_sound h6 h1 h2 h3 r hv (fun o q1 q2 hu => hfree o q1 q2 (hU o hu)) hm (fun y H' hp => (h7 y H' hp).1)
  unfold Oper.wp
  rw [hrun, Oper.upon_enter]
  refine key.mono ?_
  rintro e' w' ⟨y, H', v, X', rfl, hpo, rfl, hR, hL, hUU, hvv⟩
  refine ⟨_, _, (h7 y H' hpo).2, X', rfl, hR, ?_, by rw [put_defers]; exact hd, ?_⟩
  · rw [hdst]
    exact put_all (hall0.mono fun _ _ => hL.vv) e.dst hvv
  · intro o ho
    rcases (hUU o).1 ho with h | ⟨q1, q2⟩
    · exact .inl (hU o h)
    · have := (h7 y H' hpo).1.2
      exact .inr ⟨q1, by omega⟩

theorem cok_q {o : Oper} {q : QOp} (h : cok1 P o = some (.q q)) : cop P o = some q := by
  unfold cok1 at h
  split at h
  · simp at h
  · split at h
    · split at h
      · split at h
        · replace h := bind_some' h; obtain ⟨i, _, h⟩ := h
          replace h := bind_some' h; obtain ⟨z, _, h⟩ := h
          split at h <;> simp at h
        · simp at h
      · simp at h
    · simp at h
  · split at h
    · split at h
      · simp at h
      · simp at h
    · simp at h
  · split at h <;> simp at h
  · simp at h
  · replace h := map_some' h; obtain ⟨q', h1, h2⟩ := h
    simp only [EK.q.injEq] at h2
    rw [← h2]; exact h1

theorem cok_sto {o : Oper} {n : Nat} {p x : Opd} (h : cok1 P o = some (.sto n p x)) : ∃ t p' x', o.op = .store t p' x' ∧ sz P t = some n ∧ p = opd p' ∧ x = opd x' := by
  unfold cok1 at h
  split at h
  · rename_i t p' x' ho
    replace h := map_some' h; obtain ⟨n', hn, h⟩ := h
    simp only [EK.sto.injEq] at h
    exact ⟨t, p', x', ho, by rw [← h.1]; exact hn, h.2.1.symm, h.2.2.symm⟩
  · split at h
    · split at h
      · split at h
        · replace h := bind_some' h; obtain ⟨i, _, h⟩ := h
          replace h := bind_some' h; obtain ⟨z, _, h⟩ := h
          split at h <;> simp at h
        · simp at h
      · simp at h
    · simp at h
  · split at h
    · split at h
      · simp at h
      · simp at h
    · simp at h
  · split at h <;> simp at h
  · simp at h
  · replace h := map_some' h; obtain ⟨q', _, h2⟩ := h
    simp at h2

theorem cok_app {o : Oper} {ty es bytes : Nat} {s x : Opd} (h : cok1 P o = some (.app ty es bytes s x)) :
    ∃ args ts s' x' t i z, o.op = .call { callee := .builtin .append, args := args, argTypes := ts } ∧ args.toList = [s', x'] ∧ ts.toList = [t, t] ∧ P.underlying t = some (.slice ty) ∧ P.info? ty = some i ∧ zer P ty = some z ∧ z.length = i.size ∧ 0 < i.size ∧
      es = i.size ∧ bytes = i.bytes ∧ s = opd s' ∧ x = opd x' := by
  unfold cok1 at h
  split at h
  · simp at h
  · rename_i args ts ho
    split at h
    · rename_i s' x' t t' ha ht
      split at h
      · rename_i htt
        subst htt
        split at h
        · rename_i e hu
          replace h := bind_some' h; obtain ⟨i, hi, h⟩ := h
          replace h := bind_some' h; obtain ⟨z, hz, h⟩ := h
          split at h
          · rename_i hh
            simp only [Option.some.injEq, EK.app.injEq] at h
            obtain ⟨rfl, rfl, rfl, rfl, rfl⟩ := h
            exact ⟨args, ts, s', x', t, i, z, ho, ha, ht, hu, hi, hz, hh.1, hh.2, rfl, rfl, rfl, rfl⟩
          · simp at h
        · simp at h
      · simp at h
    · simp at h
  · split at h
    · split at h
      · simp at h
      · simp at h
    · simp at h
  · split at h <;> simp at h
  · simp at h
  · replace h := map_some' h; obtain ⟨q', _, h2⟩ := h
    simp at h2

theorem cok_cpy {o : Oper} {es : Nat} {d s : Opd} (h : cok1 P o = some (.cpy es d s)) :
    ∃ args ts d' s' t e, o.op = .call { callee := .builtin .copy, args := args, argTypes := ts } ∧ args.toList = [d', s'] ∧ ts.toList.head? = some t ∧ P.underlying t = some (.slice e) ∧ sz P e = some es ∧ d = opd d' ∧ s = opd s' := by
  unfold cok1 at h
  split at h
  · simp at h
  · split at h
    · split at h
      · split at h
        · replace h := bind_some' h; obtain ⟨i, _, h⟩ := h
          replace h := bind_some' h; obtain ⟨z, _, h⟩ := h
          split at h <;> simp at h
        · simp at h
      · simp at h
    · simp at h
  · rename_i args ts ho
    split at h
    · rename_i d' s' t ha ht
      split at h
      · rename_i e hu
        replace h := map_some' h; obtain ⟨n, hn, h⟩ := h
        simp only [EK.cpy.injEq] at h
        obtain ⟨rfl, rfl, rfl⟩ := h
        exact ⟨args, ts, d', s', t, e, ho, ha, ht, hu, hn, rfl, rfl⟩
      · simp at h
    · simp at h
  · split at h <;> simp at h
  · simp at h
  · replace h := map_some' h; obtain ⟨q', _, h2⟩ := h
    simp at h2

theorem cok_call {o : Oper} {f : FuncId} {args : List Opd} (h : cok1 P o = some (.call f args)) :
    ∃ as ts, o.op = .call { callee := .value (.func f), args := as, argTypes := ts } ∧ bodyOK P f = true ∧ args = as.toList.map opd := by
  unfold cok1 at h
  split at h
  · simp at h
  · split at h
    · split at h
      · split at h
        · replace h := bind_some' h; obtain ⟨i, _, h⟩ := h
          replace h := bind_some' h; obtain ⟨z, _, h⟩ := h
          split at h <;> simp at h
        · simp at h
      · simp at h
    · simp at h
  · split at h
    · split at h
      · simp at h
      · simp at h
    · simp at h
  · rename_i f' as ts ho
    split at h
    · rename_i hb
      simp only [Option.some.injEq, EK.call.injEq] at h
      obtain ⟨rfl, rfl⟩ := h
      exact ⟨as, ts, ho, hb, rfl⟩
    · simp at h
  · simp at h
  · replace h := map_some' h; obtain ⟨q', _, h2⟩ := h
    simp at h2

theorem cok_clo {o : Oper} {x : Opd} {args : List Opd} (h : cok1 P o = some (.clo x args)) :
    ∃ t as ts, o.op = .call { callee := .value (.tmp t), args := as, argTypes := ts } ∧ x = opd (.tmp t) ∧ args = as.toList.map opd := by
  unfold cok1 at h
  split at h
  · simp at h
  · split at h
    · split at h
      · split at h
        · replace h := bind_some' h; obtain ⟨i, _, h⟩ := h
          replace h := bind_some' h; obtain ⟨z, _, h⟩ := h
          split at h <;> simp at h
        · simp at h
      · simp at h
    · simp at h
  · split at h
    · split at h
      · simp at h
      · simp at h
    · simp at h
  · split at h <;> simp at h
  · rename_i t as ts ho
    simp only [Option.some.injEq, EK.clo.injEq] at h
    obtain ⟨rfl, rfl⟩ := h
    exact ⟨t, as, ts, ho, rfl, rfl⟩
  · replace h := map_some' h; obtain ⟨q', _, h2⟩ := h
    simp at h2

theorem nilLen_spec (r : Rel w0 m ρ0 Φ0 H X) {c : EC} {v : Value} (hv : VR X c v) {n : Nat} (h : nilLen H c = some n) : ∃ ad len cap, v = .slice ad len cap ∧ (ad = none → n = 0) ∧ (ad ≠ none → isNil c = false) := by
  cases c with
  | fz x =>
    cases x with
    | lit u =>
      have hv' : FR X.Φ X.w (.lit u) v := hv
      cases hv'
      simp only [nilLen, nilF] at h
      split at h
      · rename_i heq; simp at heq
      · rename_i heq
        simp only [FV.lit.injEq] at heq
        subst heq
        obtain rfl := Option.some.inj h
        exact ⟨none, 0, 0, rfl, fun _ => rfl, fun h => absurd rfl h⟩
      · simp at h
    | sl es xs =>
      obtain rfl := Option.some.inj h
      have hv' : FR X.Φ X.w (.sl es xs) v := hv
      cases hv' with
      | sl es xs b off cap vs _ _ _ _ _ _ _ => exact ⟨_, _, cap, rfl, by simp, fun _ => rfl⟩
      | emp es ad cap => exact ⟨ad, 0, cap, rfl, fun _ => rfl, fun _ => rfl⟩
  | row o len =>
    simp only [nilLen] at h
    split at h
    · rename_i ty es xs ho
      obtain rfl := Option.some.inj h
      obtain ⟨_, ad, k, cap, hρ, h1, h2, rfl⟩ := hv
      refine ⟨ad, _, cap, rfl, ?_, fun _ => rfl⟩
      rintro rfl
      obtain ⟨_, _, _, flat, how, _⟩ := r.obj o _ ho
      rw [hρ] at how
      obtain ⟨_, ⟨e1, e2⟩ | ⟨g, cap', cur, e1, _⟩⟩ := how
      · simp only [Value.slice.injEq] at e1
        omega
      · simp at e1
    · simp at h
  | _ => simp [nilLen] at h

theorem rowOf_spec {H : Nat → Option EO} {c : EC} {o : Nat} {xs : List (List FV)} (h : rowOf H c = some (o, xs)) : ∃ ty len, c = .row o len ∧ H o = some (.row ty 1 xs) ∧ len = xs.length ∧ xs ≠ [] := by
  cases c with
  | row o' len =>
    simp only [rowOf] at h
    split at h
    · rename_i ty es xs' hH
      split at h
      · rename_i hh
        obtain ⟨rfl, h1, h2⟩ := hh
        simp only [Option.some.injEq, Prod.mk.injEq] at h
        obtain ⟨rfl, rfl⟩ := h
        exact ⟨ty, len, rfl, hH, h1, by rintro rfl; simp at h1; omega⟩
      · simp at h
    · simp at h
  | _ => simp [rowOf] at h

/-- ONE OPERATION, guard and all. -/
theorem flat_take {es : Nat} : ∀ (xs : List (List FV)) (n : Nat), (∀ x ∈ xs, x.length = es) → n ≤ xs.length → (xs.take n).flatten = xs.flatten.take (n * es)
  | [], n, _, hn => by have : n = 0 := by simpa using hn
                       subst this; simp
  | x :: r, 0, _, _ => by simp
  | x :: r, n + 1, h, hn => by
    have hx := h x (by simp)
    have ih := flat_take r n (fun y hy => h y (by simp [hy])) (by simpa using hn)
    rw [List.take_succ_cons, List.flatten_cons, List.flatten_cons, ih, Nat.add_mul, Nat.one_mul, List.take_append, List.take_of_length_le (l := x) (by rw [hx]; omega), hx, show n * es + es - es = n * es by omega]

/-- A row that is only looked at from now on. -/
theorem freeze1 (r : Rel w0 m ρ0 Φ0 H X) {o : Nat} {ty es : Nat} {xs : List (List FV)} (ho : H o = some (.row ty es xs)) :
    ∃ Y : Cx, Y.w = X.w ∧ Y.U = X.U ∧ Y.ρ = X.ρ ∧ Rel w0 m ρ0 Φ0 (upd H o none) Y ∧ Later X Y ∧ ∀ len v, VR X (.row o len) v → FR Y.Φ Y.w (.sl es (xs.take len)) v := by
  obtain ⟨hu, h0, hlen, flat, how, hfl⟩ := r.obj o _ ho
  rcases how with ⟨hl, ⟨e1, e2⟩ | ⟨g', cap, cur, e1, _, hg', hnc, hcm, hsz, htk⟩⟩
  · refine ⟨X, rfl, rfl, rfl, r.drop (fun i x hx => by
      by_cases e : i = o
      · subst e; rw [upd_same] at hx; simp at hx
      · rwa [upd_ne _ _ _ e] at hx), Later.refl X, ?_⟩
    rintro len v ⟨_, a', n', cap', q1, q2, q3, rfl⟩
    have : xs = [] := List.eq_nil_of_length_eq_zero e2
    subst this
    rw [e1] at q1
    simp only [Value.slice.injEq] at q1
    obtain ⟨rfl, rfl, rfl⟩ := q1
    have : len = 0 := by omega
    subst this
    exact FR.emp es none _
  · have hbo : hb (X.ρ o) = some g' := by rw [e1]; rfl
    obtain ⟨r', l'⟩ := r.still (w' := X.w) rfl rfl rfl rfl o _ ho g' hbo (fun _ _ => rfl)
    refine ⟨{ X with Φ := fun k => X.Φ k ∨ k = g', w := X.w }, rfl, rfl, rfl, r', l', ?_⟩
    rintro len v ⟨_, a', n', cap', q1, q2, q3, rfl⟩
    rw [e1] at q1
    simp only [Value.slice.injEq] at q1
    obtain ⟨rfl, rfl, rfl⟩ := q1
    have hlt : (xs.take len).length = len := by rw [List.length_take]; omega
    have hfx := flat_take xs len hlen (by omega)
    have hfv : (flat.take (len * es)).length = len * es := by
      rw [List.length_take, hl]
      have := Nat.mul_le_mul_right es q2
      omega
    have := FR.sl (Φ := fun k => X.Φ k ∨ k = g') (w := X.w) es (xs.take len) g' 0 cap (flat.take (len * es)) (.inr rfl) h0 (fun x hx => hlen x (List.mem_of_mem_take hx)) (by rw [hfv, hlt]) (by omega)
      (by
        intro j u hj
        rw [Nat.zero_add, cell_of_row _ _ _ cur ty (0, 0) hg']
        rw [List.getElem?_take] at hj
        split at hj
        · rw [← htk, List.getElem?_take] at hj
          split at hj
          · simpa using hj
          · simp at hj
        · simp at hj)
      (by
        intro j x u hx hu'
        rw [hfx, List.getElem?_take] at hx
        rw [List.getElem?_take] at hu'
        split at hx
        · rename_i hj
          rw [if_pos hj] at hu'
          exact l'.fr (hfl.2 j x u hx hu')
        · simp at hx)
    rw [hlt] at this
    exact this

/-- Rows that are only looked at from now on. -/
theorem freezeL (r : Rel w0 m ρ0 Φ0 H X) : ∀ (d : List Nat), ∃ Y : Cx, Y.w = X.w ∧ Y.U = X.U ∧ Rel w0 m ρ0 Φ0 (rmv H d) Y ∧ Later X Y ∧ ∀ o ∈ d, ∀ ty es xs, H o = some (.row ty es xs) → ∀ len v, VR X (.row o len) v → FR Y.Φ Y.w (.sl es (xs.take len)) v
  | [] => ⟨X, rfl, rfl, r.drop (fun o x hx => by simpa [rmv] using hx), Later.refl X, fun o h => by simp at h⟩
  | i :: d => by
    obtain ⟨Y, h1, h2, rY, hL, hf⟩ := freezeL r d
    have hdrop : ∀ (r' : Rel w0 m ρ0 Φ0 (upd (rmv H d) i none) Y), Rel w0 m ρ0 Φ0 (rmv H (i :: d)) Y := fun r' => r'.drop (fun o x hx => by
      unfold rmv at hx
      split at hx
      · simp at hx
      · rename_i hn
        simp only [List.mem_cons, not_or] at hn
        rw [upd_ne _ _ _ hn.1]
        unfold rmv
        rw [if_neg hn.2]
        exact hx)
    by_cases hid : i ∈ d
    · refine ⟨Y, h1, h2, rY.drop (fun o x hx => ?_), hL, fun o ho => ?_⟩
      · unfold rmv at hx ⊢
        split at hx
        · simp at hx
        · rename_i hn
          simp only [List.mem_cons, not_or] at hn
          rw [if_neg hn.2]; exact hx
      · rcases List.mem_cons.1 ho with rfl | ho
        · exact hf o hid
        · exact hf o ho
    by_cases hr : ∃ ty es xs, H i = some (.row ty es xs)
    · obtain ⟨ty, es, xs, hi⟩ := hr
      have hi' : rmv H d i = some (.row ty es xs) := by unfold rmv; rw [if_neg hid]; exact hi
      obtain ⟨Z, q1, q2, _, rZ, hLZ, hfZ⟩ := freeze1 rY hi'
      refine ⟨Z, q1.trans h1, q2.trans h2, rZ.drop (fun o x hx => ?_), hL.trans hLZ, fun o ho ty' es' xs' hH len v hv => ?_⟩
      · unfold rmv at hx
        split at hx
        · simp at hx
        · rename_i hn
          simp only [List.mem_cons, not_or] at hn
          rw [upd_ne _ _ _ hn.1]
          unfold rmv
          rw [if_neg hn.2]
          exact hx
      · rcases List.mem_cons.1 ho with rfl | ho
        · rw [hi] at hH
          simp only [Option.some.injEq, EO.row.injEq] at hH
          obtain ⟨rfl, rfl, rfl⟩ := hH
          exact hfZ len v (hL.vr hv)
        · exact hLZ.fr (hf o ho ty' es' xs' hH len v hv)
    · refine ⟨Y, h1, h2, rY.drop (fun o x hx => ?_), hL, fun o ho ty es xs hH => ?_⟩
      · unfold rmv at hx ⊢
        split at hx
        · simp at hx
        · rename_i hn
          simp only [List.mem_cons, not_or] at hn
          rw [if_neg hn.2]; exact hx
      · rcases List.mem_cons.1 ho with rfl | ho
        · exact absurd ⟨ty, es, xs, hH⟩ hr
        · exact hf o ho ty es xs hH

theorem fzMV_vv {Y : Cx} {d : List Nat} (hL : Later X Y) (hf : ∀ o ∈ d, ∀ ty es xs, H o = some (.row ty es xs) → ∀ len v, VR X (.row o len) v → FR Y.Φ Y.w (.sl es (xs.take len)) v) {e : EV} {v : Value} (h : VV X e v) : VV Y (fzMV H d e) v := by
  have vr : ∀ c v, VR X c v → VR Y (fzM H d c) v := by
    intro c v h
    cases c with
    | row o len =>
      simp only [fzM]
      split
      · rename_i ho
        split
        · rename_i ty es xs hH
          exact hf o ho ty es xs hH len v h
        · exact hL.vr h
      · exact hL.vr h
    | _ => exact hL.vr h
  have vrs : ∀ cs vs, All2 (VR X) cs vs → All2 (VR Y) (cs.map (fzM H d)) vs := by
    intro cs vs h
    refine ⟨by rw [List.length_map]; exact h.1, fun i x y hx hy => ?_⟩
    rw [List.getElem?_map] at hx
    obtain ⟨z, hz, rfl⟩ := map_some' hx
    exact vr z y (h.2 i z y hz hy)
  have vt : ∀ t v, VT X t v → VT Y (fzMT H d t) v := by
    intro t v h
    cases t with
    | c x => exact vr x v h
    | agg cs => obtain ⟨vs, hv, ha⟩ := h; exact ⟨vs, hv, vrs cs vs ha⟩
  cases e with
  | v t => exact vt t v h
  | tup ts =>
    obtain ⟨vs, hv, ha⟩ := h
    refine ⟨vs, hv, by rw [List.length_map]; exact ha.1, fun i x y hx hy => ?_⟩
    rw [List.getElem?_map] at hx
    obtain ⟨z, hz, rfl⟩ := map_some' hx
    exact vt z y (ha.2 i z y hz hy)
  | any => trivial

theorem cok_fz {o : Oper} (k : EK) : cok P o ≠ some (.fz k) := by
  intro h
  have h1 := cok_1 h (by simp) (by simp)
  unfold cok1 at h1
  split at h1
  · simp at h1
  · split at h1
    · split at h1
      · split at h1
        · replace h1 := Option.bind_eq_some_iff.1 h1; obtain ⟨i, _, h1⟩ := h1
          replace h1 := Option.bind_eq_some_iff.1 h1; obtain ⟨z, _, h1⟩ := h1
          split at h1 <;> simp at h1
        · simp at h1
      · simp at h1
    · simp at h1
  · split at h1
    · split at h1
      · simp at h1
      · simp at h1
    · simp at h1
  · split at h1 <;> simp at h1
  · simp at h1
  · replace h1 := Option.map_eq_some_iff.1 h1; obtain ⟨q', _, h2⟩ := h1
    simp at h2

theorem op0_sound {k : EK} {o : Oper} {e : EOp} {id : Nat} {ok : Nat → Prop} {K : List EV → (Nat → Option EO) → Prop} {Us : Nat → Prop} {T0 : List EV} (hk : cok P o = some k ∨ ∃ q, copR P o = some q ∧ k = .q q) (hdst : o.dst = e.dst)
    (r : Rel w0 m ρ0 Φ0 H X) (hall : All2 (VV X) T a.tmps.toList) (hall0 : All2 (VV X) T0 a.tmps.toList) (hd : a.defers = []) (hU : ∀ o, X.U o → Us o)
    (hfree : ∀ o, id ≤ o → o < id + 16 → ¬ Us o) (hidm : m ≤ id) (h : opK0 P k id ok (fun v H' => K (setD T0 e.dst v) H') T H) :
    o.wp P a X.w (fun a' w' => ∃ T' H', K T' H' ∧ RR w0 m ρ0 Φ0 (fun o => Us o ∨ (id ≤ o ∧ o < id + 16)) T' H' a' w') Q := by
  have hidU : ¬ X.U id := fun hu => hfree _ (Nat.le_refl _) (by omega) (hU _ hu)
  cases k with
  | q qq =>
    simp only [opK0] at h
    split at h
    · rename_i v ob hev
      obtain ⟨val, X', hrun, r', hL, hUU, hv⟩ := (by
        rcases hk with hk | ⟨q', hq', he'⟩
        · exact quiet_sound (cok_q (cok_1 hk (by simp) (by simp))) r hall hidU hidm hev
        · simp only [EK.q.injEq] at he'
          subst he'
          exact quiet_soundR hq' r hall hidU hidm hev : Good P o a w0 m ρ0 Φ0 H X (id) v ob)
      unfold Oper.wp
      rw [hrun, Oper.upon_value]
      refine ⟨_, _, h, X', rfl, r', ?_, by rw [put_defers]; exact hd, ?_⟩
      · rw [hdst]
        exact put_all (hall0.mono fun _ _ => hL.vv) e.dst hv
      · intro o ho
        rcases (hUU o).1 ho with h | ⟨rfl, _⟩
        · exact .inl (hU o h)
        · exact .inr ⟨Nat.le_refl _, by omega⟩
    · exact h.elim
  | sto n' p x =>
    replace hk := hk.resolve_right (by rintro ⟨_, _, h⟩; simp at h)
    simp only [opK0] at h
    obtain ⟨t, p', x', hop, hn, rfl, rfl⟩ := cok_sto (cok_1 hk (by simp) (by simp))
    split at h
    · rename_i pc cs hp hx
      split at h
      · rename_i i ob hs
        obtain ⟨w', hrun, r', hL⟩ := g_sto hop hn r hall hp hx h.1 hs
        unfold Oper.wp
        rw [hrun, Oper.upon_skip]
        refine ⟨_, _, h.2.2, { X with w := w' }, rfl, r', ?_, by rw [put_defers]; exact hd, fun o ho => .inl (hU o ho)⟩
        rw [hdst]
        exact put_all (hall0.mono fun _ _ => hL.vv) e.dst ⟨[], rfl, All2.nil⟩
      · exact h.elim
    · exact h.elim
  | app ty es bytes s x =>
    replace hk := hk.resolve_right (by rintro ⟨_, _, h⟩; simp at h)
    simp only [opK0] at h
    obtain ⟨args, ts, s', x', t, i, z, hop, hargs, hts, hu, hi, hz, hzl, h0, rfl, rfl, rfl, rfl⟩ := cok_app (cok_1 hk (by simp) (by simp))
    split at h
    · rename_i sc xc hs hx
      split at h
      · rename_i old xs ys hb hy
        obtain ⟨val, w', hrun, r', hL, hv⟩ := g_app hop hargs hts hu hi hz hzl h0 r hall hidU hidm hs hb hx hy h.1.1 h.1.2
        unfold Oper.wp
        rw [hrun, Oper.upon_value]
        refine ⟨_, _, h.2.2, _, rfl, r', ?_, by rw [put_defers]; exact hd, ?_⟩
        · rw [hdst]
          exact put_all (hall0.mono fun _ _ => hL.vv) e.dst hv
        · intro o ho
          rcases ho with h | rfl
          · exact .inl (hU o h)
          · exact .inr ⟨Nat.le_refl _, by omega⟩
      · exact h.elim
    · exact h.elim
  | cpy es d s =>
    replace hk := hk.resolve_right (by rintro ⟨_, _, h⟩; simp at h)
    simp only [opK0] at h
    obtain ⟨args, ts, d', s', t, e', hop, hargs, hts, hu, hes, rfl, rfl⟩ := cok_cpy (cok_1 hk (by simp) (by simp))
    split at h
    · rename_i dc xc hdc hx
      split at h
      · rename_i ys hy
        split at h
        · rename_i i ob n' hs
          obtain ⟨w', hrun, r', hL⟩ := g_cpy hop hargs hts hu hes r hall hdc hx hy hs
          unfold Oper.wp
          rw [hrun, Oper.upon_value]
          refine ⟨_, _, h.2, { X with w := w' }, rfl, r', ?_, by rw [put_defers]; exact hd, fun o ho => .inl (hU o ho)⟩
          rw [hdst]
          exact put_all (hall0.mono fun _ _ => hL.vv) e.dst (VV_mklit rfl)
        · exact h.elim
      · exact h.elim
    · exact h.elim
  | call f args =>
    replace hk := hk.resolve_right (by rintro ⟨_, _, h⟩; simp at h)
    simp only [opK0] at h
    obtain ⟨as, ts, hop, hb, rfl⟩ := cok_call (cok_1 hk (by simp) (by simp))
    refine call_step hall0 (vals := as.toList.map a.eval) ?_ hdst r hall hd hU (args_all hall _) hfree hidm h
    have e1 : Array.map a.eval as = (as.toList.map a.eval).toArray := toList_map_eval
    simp only [execOp, hop, resolve, Sem.run_bind]
    show ((Deferred.ofValue (a.eval (.func f)) (Array.map a.eval as)).run P X.w).andThen _ = _
    simp only [Act.eval, Deferred.ofValue, Sem.run_pure, Result.andThen_ok, invoke]
    rw [run_callFunc hb]
    simp only [Array.append_empty]
    rw [show (#[] ++ Array.map a.eval as) = Array.map a.eval as by simp]
    congr 2
  | clo x args =>
    replace hk := hk.resolve_right (by rintro ⟨_, _, h⟩; simp at h)
    simp only [opK0] at h
    obtain ⟨t, as, ts, hop, rfl, rfl⟩ := cok_clo (cok_1 hk (by simp) (by simp))
    split at h
    · rename_i f caps hx
      have hv := VV_c hx (VV_ev hall (.tmp t))
      obtain ⟨vs, hvs, hcaps⟩ := hv
      have hcv : All2 (VV X) (caps.map fun p => EV.v (.c (.ptr p.1 p.2))) vs := by
        refine ⟨by rw [List.length_map]; exact hcaps.1, ?_⟩
        intro i x y hx hy
        rw [List.getElem?_map] at hx
        obtain ⟨p, hp, rfl⟩ := map_some' hx
        exact hcaps.2 i p y hp hy
      refine call_step hall0 (vals := as.toList.map a.eval ++ vs) ?_ hdst r hall hd hU ((args_all hall _).append hcv) hfree hidm h.2
      have e1 : Array.map a.eval as = (as.toList.map a.eval).toArray := toList_map_eval
      simp only [execOp, hop, resolve]
      rw [hvs]
      simp only [Deferred.ofValue, Sem.run_bind, Sem.run_pure, Result.andThen_ok, invoke]
      rw [run_callFunc h.1, e1]
      congr 2
      simp
    · exact h.elim
  | nild neg x =>
    replace hk := hk.resolve_right (by rintro ⟨_, _, h⟩; simp at h)
    simp only [opK0] at h
    obtain ⟨op, t, el, y, t', hop, hu, hneg, rfl⟩ := cok_nild hk
    split at h
    · rename_i c hx
      split at h
      · rename_i n' hn
        obtain ⟨ad, len, cap, hv, h1, h2⟩ := nilLen_spec r (VV_c hx (VV_ev hall y)) hn
        have hrun : (execOp a.eval o).run P X.w = .ok (.value (.bool (if ad.isNone then !neg else neg))) X.w := by
          have hc : a.eval (.const (.slice none 0 0)) = .slice none 0 0 := rfl
          have hg : ∀ op', (eqGuard op' t y (.const (.slice none 0 0)) (.slice ad len cap) (.slice none 0 0)).run P X.w = .ok () X.w := by
            intro op'; cases op' <;> rfl
          rcases hneg with ⟨rfl, rfl⟩ | ⟨rfl, rfl⟩
          · simp only [execOp, hop, hv, hc, Sem.run_bind, hg, Result.andThen_ok, binOp, run_equal_slice_nil X.w t el ad len cap hu, Sem.run_pure]
            cases ad <;> rfl
          · simp only [execOp, hop, hv, hc, Sem.run_bind, hg, Result.andThen_ok, binOp, run_equal_slice_nil X.w t el ad len cap hu, Sem.run_pure]
            cases ad <;> rfl
        unfold Oper.wp
        rw [hrun, Oper.upon_value]
        cases ad with
        | none =>
          refine ⟨_, _, h.1 (h1 rfl), X, rfl, r, ?_, by rw [put_defers]; exact hd, fun o ho => .inl (hU o ho)⟩
          rw [hdst]
          exact put_all hall0 e.dst (VV_mklit rfl)
        | some ad =>
          refine ⟨_, _, h.2 (h2 (by simp)), X, rfl, r, ?_, by rw [put_defers]; exact hd, fun o ho => .inl (hU o ho)⟩
          rw [hdst]
          exact put_all hall0 e.dst (VV_mklit rfl)
      · exact h.elim
    · exact h.elim
  | mrk x =>
    replace hk := hk.resolve_right (by rintro ⟨_, _, h⟩; simp at h)
    simp only [opK0] at h
    obtain ⟨t, el, y, hop, hu, he, rfl⟩ := cok_mrk hk
    split at h
    · rename_i c hx
      split at h
      · rename_i i xs hro
        obtain ⟨ty, len, rfl, hi, hl, hne⟩ := rowOf_spec hro
        obtain ⟨val, X', hrun, r', hL, hUU, hv⟩ := g_mrk hop hu he r hall hx hi hl hne
        unfold Oper.wp
        rw [hrun, Oper.upon_value]
        refine ⟨_, _, h.2, X', rfl, r', ?_, by rw [put_defers]; exact hd, fun o ho => .inl (hU o ((hUU o).1 ho))⟩
        rw [hdst]
        exact put_all (hall0.mono fun _ _ => hL.vv) e.dst hv
      · exact h.elim
    · exact h.elim
  | fz k => exact h.elim
  | bad => exact h.elim

theorem op_sound {e : EOp} {n : Nat} {lg : List (Nat × List Nat)} {K : List EV → (Nat → Option EO) → Prop} {Us : Nat → Prop} (hl : Link P ops e) (hR : RR w0 m ρ0 Φ0 Us T H a w)
    (hfree : ∀ o, n + 16 * e.i ≤ o → o < n + 16 * e.i + 16 → ¬ Us o) (hm : m ≤ n) (h : opT P n e lg K T H) :
    wpOp P ops Q e.i (fun a' w' => ∃ T' H', K T' H' ∧ RR w0 m ρ0 Φ0 (fun o => Us o ∨ (n + 16 * e.i ≤ o ∧ o < n + 16 * e.i + 16)) T' H' a' w') a w := by
  obtain ⟨o, ho, hk, hdst, hgd⟩ := hl
  obtain ⟨X, rfl, r, hall, hd, hU⟩ := hR
  have hidU : ¬ X.U (n + 16 * e.i) := fun hu => hfree _ (Nat.le_refl _) (by omega) (hU _ hu)
  have hidm : m ≤ n + 16 * e.i := by omega
  unfold wpOp
  rw [ho]
  unfold opT at h
  split at h
  · exact h.elim
  · rename_i hg
    have hw := wanted_of hall hgd hg
    simp only [hw, Bool.false_eq_true, if_false]
    refine ⟨_, _, h, X, rfl, r, ?_, by rw [put_defers]; exact hd, fun o ho => .inl (hU o ho)⟩
    rw [hdst]
    exact put_all hall e.dst ⟨[], rfl, All2.nil⟩
  · rename_i hg
    have hw := wanted_of hall hgd hg
    simp only [hw, if_true]
    refine .inl ?_
    cases hkk : e.k with
    | fz k =>
      rw [hkk] at hk h
      have hk' : cok P o = some k := by
        rcases hk with hk | ⟨q, _, hq⟩ | ⟨k', hk', he⟩
        · exact absurd hk (cok_fz k)
        · simp at hq
        · simp only [EK.fz.injEq] at he; rw [he]; exact hk'
      obtain ⟨h1, h2⟩ := h
      obtain ⟨d, hd'⟩ : ∃ d, deadK k T H = d := ⟨_, rfl⟩
      rw [hd'] at h2
      obtain ⟨Y, hYw, hYU, rY, hL, hfr⟩ := freezeL r d
      have hallY : All2 (VV Y) (T.map (fzMV H d)) a.tmps.toList := by
        refine ⟨by rw [List.length_map]; exact hall.1, fun i x y hx hy => ?_⟩
        rw [List.getElem?_map] at hx
        obtain ⟨z, hz, rfl⟩ := map_some' hx
        exact fzMV_vv hL hfr (hall.2 i z y hz hy)
      rw [← hYw]
      exact op0_sound (.inl hk') hdst rY hallY (hall.mono fun _ _ => hL.vv) hd (fun o ho => hU o (by rw [← hYU]; exact ho)) hfree hidm h2
    | _ =>
      rw [hkk] at hk h
      simp only [opK] at h
      refine op0_sound (hk.imp (fun h => h) (fun h => ?_)) hdst r hall hall hd hU hfree hidm h
      rcases h with h | ⟨k', _, he⟩
      · exact h
      · simp at he

end
end Go.EW
