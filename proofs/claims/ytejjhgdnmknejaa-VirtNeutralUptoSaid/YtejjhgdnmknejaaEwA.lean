/- E-values (trees), E-objects, and the relation of an E-state to a frame and a world. -/
import Derived.Test.YtejjhgdnmknejaaEwZ
import Derived.Orders
import Derived.Laws.AppendOwn
import Derived.Laws.Tables
import Derived.Deep.WholeRow
import Derived.KernelRfl
namespace Go.EW
open Go

/-! ### lists side by side -/
def All2 {α β : Type} (R : α → β → Prop) (xs : List α) (ys : List β) : Prop :=
  xs.length = ys.length ∧ ∀ (i : Nat) (x : α) (y : β), xs[i]? = some x → ys[i]? = some y → R x y

theorem All2.nil {α β : Type} {R : α → β → Prop} : All2 R [] [] := ⟨rfl, by simp⟩
theorem All2.cons {α β : Type} {R : α → β → Prop} {x : α} {y : β} {xs : List α} {ys : List β} (h : R x y) (t : All2 R xs ys) : All2 R (x :: xs) (y :: ys) := by
  refine ⟨by simp [t.1], ?_⟩
  intro i a b ha hb
  cases i with
  | zero => simp at ha hb; subst ha; subst hb; exact h
  | succ i => exact t.2 i a b (by simpa using ha) (by simpa using hb)
theorem All2.head {α β : Type} {R : α → β → Prop} {x : α} {y : β} {xs : List α} {ys : List β} (t : All2 R (x :: xs) (y :: ys)) : R x y := t.2 0 x y rfl rfl
theorem All2.tail {α β : Type} {R : α → β → Prop} {x : α} {y : β} {xs : List α} {ys : List β} (t : All2 R (x :: xs) (y :: ys)) : All2 R xs ys :=
  ⟨by simpa using t.1, fun i a b ha hb => t.2 (i + 1) a b (by simpa using ha) (by simpa using hb)⟩
theorem All2.mono {α β : Type} {R R' : α → β → Prop} {xs : List α} {ys : List β} (t : All2 R xs ys) (h : ∀ x y, R x y → R' x y) : All2 R' xs ys :=
  ⟨t.1, fun i a b ha hb => h _ _ (t.2 i a b ha hb)⟩
theorem All2.get {α β : Type} {R : α → β → Prop} {xs : List α} {ys : List β} (t : All2 R xs ys) {i : Nat} {x : α} (h : xs[i]? = some x) : ∃ y, ys[i]? = some y ∧ R x y := by
  have hi : i < xs.length := by
    rcases Nat.lt_or_ge i xs.length with h' | h'
    · exact h'
    · rw [List.getElem?_eq_none h'] at h; simp at h
  have hj : i < ys.length := t.1 ▸ hi
  exact ⟨ys[i], by simp [hj], t.2 i x _ h (by simp [hj])⟩
theorem All2.get' {α β : Type} {R : α → β → Prop} {xs : List α} {ys : List β} (t : All2 R xs ys) {i : Nat} {y : β} (h : ys[i]? = some y) : ∃ x, xs[i]? = some x ∧ R x y := by
  have hi : i < ys.length := by
    rcases Nat.lt_or_ge i ys.length with h' | h'
    · exact h'
    · rw [List.getElem?_eq_none h'] at h; simp at h
  have hj : i < xs.length := t.1 ▸ hi
  exact ⟨xs[i], by simp [hj], t.2 i _ y (by simp [hj]) h⟩
theorem All2.set {α β : Type} {R : α → β → Prop} {xs : List α} {ys : List β} (t : All2 R xs ys) (i : Nat) {x : α} {y : β} (h : R x y) : All2 R (xs.set i x) (ys.set i y) := by
  refine ⟨by simp [t.1], ?_⟩
  intro j a b ha hb
  rw [List.getElem?_set] at ha hb
  by_cases e : i = j
  · subst e
    simp only [if_true] at ha hb
    split at ha
    · split at hb
      · simp at ha hb; subst ha; subst hb; exact h
      · simp at hb
    · simp at ha
  · rw [if_neg e] at ha hb
    exact t.2 j a b ha hb
theorem All2.append {α β : Type} {R : α → β → Prop} {xs xs' : List α} {ys ys' : List β} (t : All2 R xs ys) (t' : All2 R xs' ys') : All2 R (xs ++ xs') (ys ++ ys') := by
  refine ⟨by simp [t.1, t'.1], ?_⟩
  intro i a b ha hb
  rw [List.getElem?_append] at ha hb
  rw [t.1] at ha
  split at ha
  · rename_i h; rw [if_pos h] at hb; exact t.2 i a b ha hb
  · rename_i h; rw [if_neg h] at hb; exact t'.2 _ a b ha hb
theorem All2.take {α β : Type} {R : α → β → Prop} {xs : List α} {ys : List β} (t : All2 R xs ys) (n : Nat) : All2 R (xs.take n) (ys.take n) := by
  refine ⟨by simp [t.1], ?_⟩
  intro i a b ha hb
  rw [List.getElem?_take] at ha hb
  split at ha
  · rename_i h; rw [if_pos h] at hb; exact t.2 i a b ha hb
  · simp at ha
theorem All2.drop {α β : Type} {R : α → β → Prop} {xs : List α} {ys : List β} (t : All2 R xs ys) (n : Nat) : All2 R (xs.drop n) (ys.drop n) := by
  refine ⟨by simp [t.1], ?_⟩
  intro i a b ha hb
  rw [List.getElem?_drop] at ha hb
  exact t.2 _ a b ha hb
theorem All2.map {α β γ δ : Type} {R : α → β → Prop} {S : γ → δ → Prop} {f : α → γ} {g : β → δ} {xs : List α} {ys : List β} (t : All2 R xs ys) (h : ∀ x y, R x y → S (f x) (g y)) : All2 S (xs.map f) (ys.map g) := by
  refine ⟨by simp [t.1], ?_⟩
  intro i a b ha hb
  simp only [List.getElem?_map, Option.map_eq_some_iff] at ha hb
  obtain ⟨a', ha', rfl⟩ := ha
  obtain ⟨b', hb', rfl⟩ := hb
  exact h _ _ (t.2 i _ _ ha' hb')
theorem All2.nil_left {α β : Type} {R : α → β → Prop} {ys : List β} (t : All2 R [] ys) : ys = [] := by
  have := t.1; simp at this; exact List.eq_nil_of_length_eq_zero this.symm
theorem All2.cons_left {α β : Type} {R : α → β → Prop} {x : α} {xs : List α} {ys : List β} (t : All2 R (x :: xs) ys) : ∃ y ys', ys = y :: ys' ∧ R x y ∧ All2 R xs ys' := by
  cases ys with
  | nil => have := t.1; simp at this
  | cons y ys' => exact ⟨y, ys', rfl, t.head, t.tail⟩

/-! ### E-values -/
inductive EC where
  | fz (x : FV)
  | ptr (o k : Nat)
  | eptr (o es i k : Nat)
  | row (o len : Nat)
  | bsl (o k len : Nat)
  | rsl (o k len : Nat)
  | fptr (cs : List FV) (k : Nat)
  | clo (f : FuncId) (caps : List (Nat × Nat))
  deriving Inhabited

inductive TV where
  | c (x : EC)
  | agg (cs : List EC)
  deriving Inhabited

inductive EV where
  | v (t : TV)
  | tup (ts : List TV)
  | any
  deriving Inhabited

inductive EO where
  | box (ty : TypeId) (cells : List EC)
  | row (ty : TypeId) (es : Nat) (elems : List (List FV))
  deriving Inhabited

/-! ### frozen readings -/
inductive FR (Φ : Nat → Prop) (w : World) : FV → Value → Prop
  | lit (v : Value) : v.oneCell' = true → FR Φ w (.lit v) v
  | sl (es : Nat) (xs : List (List FV)) (b off cap : Nat) (vs : List Value) :
      Φ b → 0 < es → (∀ x ∈ xs, x.length = es) → vs.length = xs.length * es → xs.length ≤ cap →
      (∀ (j : Nat) (u : Value), vs[j]? = some u → w.cell? ⟨b, off + j, none⟩ = some u) →
      (∀ (j : Nat) (x : FV) (u : Value), xs.flatten[j]? = some x → vs[j]? = some u → FR Φ w x u) →
      FR Φ w (.sl es xs) (.slice (some ⟨b, off, none⟩) xs.length cap)
  | emp (es : Nat) (a : Option Addr) (cap : Nat) : FR Φ w (.sl es []) (.slice a 0 cap)

theorem FR.oneCell {Φ : Nat → Prop} {w : World} {x : FV} {v : Value} (h : FR Φ w x v) : v.oneCell' = true := by
  cases h <;> first | assumption | rfl

theorem FR.stable {Φ Φ' : Nat → Prop} {w w' : World} (hc : ∀ b, Φ b → w'.heap[b]? = w.heap[b]?) (hΦ : ∀ b, Φ b → Φ' b) {x : FV} {v : Value} (h : FR Φ w x v) : FR Φ' w' x v := by
  induction h with
  | lit v h => exact .lit v h
  | emp es a cap => exact .emp es a cap
  | sl es xs b off cap vs hb h0 hl hn hcap hcell _ ih =>
    refine .sl es xs b off cap vs (hΦ b hb) h0 hl hn hcap ?_ ih
    intro j u hu
    rw [World.cell?_of_block (w := w) (hc b hb)]
    exact hcell j u hu

/-! ### handles -/
def hb : Value → Option Nat
  | .pointer (some a) => some a.block
  | .slice (some a) _ _ => some a.block
  | _ => none

structure Cx where
  U : Nat → Prop
  ρ : Nat → Value
  Φ : Nat → Prop
  w : World

def VR (X : Cx) : EC → Value → Prop
  | .fz x, v => FR X.Φ X.w x v
  | .ptr o k, v => X.U o ∧ ∃ b, X.ρ o = .pointer (some ⟨b, 0, none⟩) ∧ v = .pointer (some ⟨b, k, none⟩)
  | .eptr o es i k, v => X.U o ∧ ∃ b n cap, X.ρ o = .slice (some ⟨b, 0, none⟩) n cap ∧ v = .pointer (some ⟨b, i * es + k, none⟩)
  | .row o len, v => X.U o ∧ ∃ a n cap, X.ρ o = .slice a n cap ∧ len ≤ n ∧ n ≤ cap ∧ v = .slice a len cap
  | .bsl o k len, v => X.U o ∧ ∃ b, X.ρ o = .pointer (some ⟨b, 0, none⟩) ∧ ∃ cap, len ≤ cap ∧ v = .slice (some ⟨b, k, none⟩) len cap
  | .rsl o k len, v => X.U o ∧ ∃ a n c cap, X.ρ o = .slice a n c ∧ len ≤ cap ∧ v = .slice (a.map fun ad => ad.add k) len cap
  | .fptr cs k, v => ∃ b off, X.Φ b ∧ v = .pointer (some ⟨b, off + k, none⟩) ∧ ∃ vs : List Value, cs.length = vs.length ∧ (∀ (j : Nat) (u : Value), vs[j]? = some u → X.w.cell? ⟨b, off + j, none⟩ = some u) ∧ (∀ (j : Nat) (x : FV) (u : Value), cs[j]? = some x → vs[j]? = some u → FR X.Φ X.w x u)
  | .clo f caps, v => ∃ vs : List Value, v = .func (.func f) #[] vs.toArray ∧ All2 (fun (p : Nat × Nat) u => X.U p.1 ∧ ∃ b, X.ρ p.1 = .pointer (some ⟨b, 0, none⟩) ∧ u = .pointer (some ⟨b, p.2, none⟩)) caps vs

def VT (X : Cx) : TV → Value → Prop
  | .c x, v => VR X x v
  | .agg cs, v => ∃ vs : List Value, v = .agg vs.toArray ∧ All2 (VR X) cs vs

def VV (X : Cx) : EV → Value → Prop
  | .v t, v => VT X t v
  | .tup ts, v => ∃ vs : List Value, v = .tuple vs.toArray ∧ All2 (VT X) ts vs
  | .any, _ => True

/-- The package-level variables whose cells are known hold them, frozen. -/
def GOK (X : Cx) : Prop := ∀ g cs, gcells g = some cs → X.Φ g ∧ ∀ (j : Nat) (x : FV), cs[j]? = some x → ∃ u, X.w.cell? ⟨g, j, none⟩ = some u ∧ FR X.Φ X.w x u
theorem GOK.mono {X Y : Cx} (k : GOK X) (hΦ : ∀ b, X.Φ b → Y.Φ b) (hw : ∀ b, X.Φ b → Y.w.heap[b]? = X.w.heap[b]?) : GOK Y := by
  intro g cs hg
  obtain ⟨h1, h2⟩ := k g cs hg
  refine ⟨hΦ g h1, fun j x hx => ?_⟩
  obtain ⟨u, hu, hr⟩ := h2 j x hx
  exact ⟨u, by rw [World.cell?_of_block (w := X.w) (hw g h1)]; exact hu, hr.stable hw hΦ⟩

/-- From one context to a later one: what is frozen stays, what has a name keeps it. -/
structure Later (X Y : Cx) : Prop where
  U : ∀ o, X.U o → Y.U o
  ρ : ∀ o, X.U o → Y.ρ o = X.ρ o
  Φ : ∀ b, X.Φ b → Y.Φ b
  w : ∀ b, X.Φ b → Y.w.heap[b]? = X.w.heap[b]?

theorem Later.refl (X : Cx) : Later X X := ⟨fun _ h => h, fun _ _ => rfl, fun _ h => h, fun _ _ => rfl⟩
theorem Later.trans {X Y Z : Cx} (h : Later X Y) (k : Later Y Z) : Later X Z :=
  ⟨fun o ho => k.U o (h.U o ho), fun o ho => (k.ρ o (h.U o ho)).trans (h.ρ o ho), fun b hb => k.Φ b (h.Φ b hb), fun b hb => (k.w b (h.Φ b hb)).trans (h.w b hb)⟩
theorem Later.fr {X Y : Cx} (h : Later X Y) {x : FV} {v : Value} (k : FR X.Φ X.w x v) : FR Y.Φ Y.w x v := k.stable h.w h.Φ
theorem Later.vr {X Y : Cx} (h : Later X Y) {x : EC} {v : Value} (k : VR X x v) : VR Y x v := by
  cases x with
  | fz x => exact h.fr k
  | ptr o i => exact ⟨h.U o k.1, by rw [h.ρ o k.1]; exact k.2⟩
  | eptr o es i j => exact ⟨h.U o k.1, by rw [h.ρ o k.1]; exact k.2⟩
  | row o len => exact ⟨h.U o k.1, by rw [h.ρ o k.1]; exact k.2⟩
  | bsl o i len => exact ⟨h.U o k.1, by rw [h.ρ o k.1]; exact k.2⟩
  | rsl o i len => exact ⟨h.U o k.1, by rw [h.ρ o k.1]; exact k.2⟩
  | fptr cs i =>
    obtain ⟨b, off, hb, hv, vs, hl, hc, hf⟩ := k
    exact ⟨b, off, h.Φ b hb, hv, vs, hl, fun j u hu => by rw [World.cell?_of_block (w := X.w) (h.w b hb)]; exact hc j u hu, fun j x u hx hu => h.fr (hf j x u hx hu)⟩
  | clo f caps =>
    obtain ⟨vs, hv, ha⟩ := k
    exact ⟨vs, hv, ha.mono fun p u hp => ⟨h.U _ hp.1, by rw [h.ρ _ hp.1]; exact hp.2⟩⟩
theorem Later.vt {X Y : Cx} (h : Later X Y) {x : TV} {v : Value} (k : VT X x v) : VT Y x v := by
  cases x with
  | c x => exact h.vr k
  | agg cs => obtain ⟨vs, hv, ha⟩ := k; exact ⟨vs, hv, ha.mono fun _ _ => h.vr⟩
theorem Later.vv {X Y : Cx} (h : Later X Y) {x : EV} {v : Value} (k : VV X x v) : VV Y x v := by
  cases x with
  | v x => exact h.vt k
  | tup ts => obtain ⟨vs, hv, ha⟩ := k; exact ⟨vs, hv, ha.mono fun _ _ => h.vt⟩
  | any => trivial

theorem VR.oneCell {X : Cx} {x : EC} {v : Value} (h : VR X x v) : v.oneCell' = true := by
  cases x with
  | fz x => exact FR.oneCell h
  | ptr o k => obtain ⟨_, b, _, rfl⟩ := h; rfl
  | eptr o es i k => obtain ⟨_, b, n, cap, _, rfl⟩ := h; rfl
  | row o len => obtain ⟨_, a, n, cap, _, _, _, rfl⟩ := h; rfl
  | bsl o k len => obtain ⟨_, b, _, cap, _, rfl⟩ := h; rfl
  | rsl o k len => obtain ⟨_, a, n, c, cap, _, _, rfl⟩ := h; rfl
  | fptr cs k => obtain ⟨b, off, _, rfl, _⟩ := h; rfl
  | clo f caps => obtain ⟨vs, rfl, _⟩ := h; rfl

/-! ### objects -/
def OR (X : Cx) : EO → Value → Prop
  | .box ty cells, h => ∃ b c, h = .pointer (some ⟨b, 0, none⟩) ∧ X.w.heap[b]? = some (.cells c ty (0, 0)) ∧ All2 (VR X) cells c.toList
  | .row ty es elems, h => 0 < es ∧ (∀ x ∈ elems, x.length = es) ∧ ∃ flat, X.w.ownsRow 0 ty es h elems.length flat ∧ All2 (FR X.Φ X.w) elems.flatten flat

structure Rel (w0 : World) (m : Nat) (ρ0 : Nat → Value) (Φ0 : Nat → Prop) (H : Nat → Option EO) (X : Cx) : Prop where
  os : X.w.os = w0.os
  tape : X.w.tape = w0.tape
  output : X.w.output = w0.output
  size : w0.heap.size ≤ X.w.heap.size
  block : ∀ b, b < w0.heap.size → (∀ o, o < m → hb (ρ0 o) ≠ some b) → X.w.heap[b]? = w0.heap[b]?
  pin : ∀ o, o < m → X.ρ o = ρ0 o
  obj : ∀ o x, H o = some x → X.U o ∧ OR X x (X.ρ o)
  inj : ∀ o o' x x' b, H o = some x → H o' = some x' → hb (X.ρ o) = some b → hb (X.ρ o') = some b → o = o'
  own : ∀ o x b, H o = some x → hb (X.ρ o) = some b → w0.heap.size ≤ b ∨ ∃ o', o' < m ∧ hb (ρ0 o') = some b
  dis : ∀ o x b, H o = some x → hb (X.ρ o) = some b → ¬ X.Φ b
  fro : ∀ b, X.Φ b → b < X.w.heap.size
  phi : ∀ b, X.Φ b → Φ0 b ∨ w0.heap.size ≤ b ∨ ∃ o', o' < m ∧ hb (ρ0 o') = some b
  glob : GOK X

theorem OR.lt {X : Cx} {x : EO} {h : Value} (k : OR X x h) {b : Nat} (hbb : hb h = some b) : b < X.w.heap.size := by
  cases x with
  | box ty cells =>
    obtain ⟨b', c, rfl, hh, _⟩ := k
    simp [hb] at hbb; subst hbb
    exact (Array.getElem?_eq_some_iff.1 hh).1
  | row ty es elems =>
    obtain ⟨_, _, flat, ho, _⟩ := k
    rcases ho.2 with ⟨rfl, _⟩ | ⟨g, cap, cur, rfl, _, hg, _⟩
    · simp [hb] at hbb
    · simp [hb] at hbb; subst hbb
      exact (Array.getElem?_eq_some_iff.1 hg).1

/-- An object whose block stays as it is. -/
theorem OR.later {X Y : Cx} (h : Later X Y) {x : EO} {v : Value} (k : OR X x v) (hw : ∀ b, hb v = some b → Y.w.heap[b]? = X.w.heap[b]?) : OR Y x v := by
  cases x with
  | box ty cells =>
    obtain ⟨b, c, rfl, hh, ha⟩ := k
    exact ⟨b, c, rfl, by rw [hw b rfl]; exact hh, ha.mono fun _ _ => h.vr⟩
  | row ty es elems =>
    obtain ⟨h0, hl, flat, ho, ha⟩ := k
    refine ⟨h0, hl, flat, ⟨ho.1, ?_⟩, ha.mono fun _ _ => h.fr⟩
    rcases ho.2 with hn | ⟨g, cap, cur, rfl, hbg, hg, rest⟩
    · exact .inl hn
    · exact .inr ⟨g, cap, cur, rfl, hbg, by rw [hw g rfl]; exact hg, rest⟩

/-- A step that leaves all blocks of live objects and all frozen blocks and all old blocks as they are (an allocation, a draw). -/
theorem Rel.later {w0 : World} {m : Nat} {ρ0 : Nat → Value} {Φ0 : Nat → Prop} {H : Nat → Option EO} {X : Cx} (r : Rel w0 m ρ0 Φ0 H X) {w' : World}
    (ho : w'.os = X.w.os) (ht : w'.tape = X.w.tape) (hp : w'.output = X.w.output) (hs : X.w.heap.size ≤ w'.heap.size) (hbl : ∀ b, b < X.w.heap.size → w'.heap[b]? = X.w.heap[b]?) :
    Rel w0 m ρ0 Φ0 H { X with w := w' } ∧ Later X { X with w := w' } := by
  have hl : Later X { X with w := w' } := ⟨fun _ h => h, fun _ _ => rfl, fun _ h => h, fun b hb => hbl b (r.fro b hb)⟩
  refine ⟨⟨ho.trans r.os, ht.trans r.tape, hp.trans r.output, Nat.le_trans r.size hs, ?_, r.pin, ?_, r.inj, r.own, r.dis, ?_, r.phi, r.glob.mono hl.Φ hl.w⟩, hl⟩
  · intro b hb hn
    exact (hbl b (Nat.lt_of_lt_of_le hb r.size)).trans (r.block b hb hn)
  · intro o x hx
    obtain ⟨hu, hor⟩ := r.obj o x hx
    exact ⟨hu, hor.later hl fun b hbb => hbl b (hor.lt hbb)⟩
  · intro b hb
    exact Nat.lt_of_lt_of_le (r.fro b hb) hs

def upd {α : Type} (f : Nat → α) (i : Nat) (v : α) : Nat → α := fun j => if j = i then v else f j
theorem upd_same {α : Type} (f : Nat → α) (i : Nat) (v : α) : upd f i v i = v := by simp [upd]
theorem upd_ne {α : Type} (f : Nat → α) (i : Nat) (v : α) {j : Nat} (h : j ≠ i) : upd f i v j = f j := by simp [upd, h]

/-- A new object in a new block. -/
theorem Rel.new {w0 : World} {m : Nat} {ρ0 : Nat → Value} {Φ0 : Nat → Prop} {H : Nat → Option EO} {X : Cx} (r : Rel w0 m ρ0 Φ0 H X) {w' : World}
    (ho : w'.os = X.w.os) (ht : w'.tape = X.w.tape) (hp : w'.output = X.w.output) (hs : X.w.heap.size ≤ w'.heap.size) (hbl : ∀ b, b < X.w.heap.size → w'.heap[b]? = X.w.heap[b]?)
    (i : Nat) (hi : ¬ X.U i) (hm : m ≤ i) (x : EO) (h : Value) (hlow : ∀ b, hb h = some b → X.w.heap.size ≤ b)
    (hor : OR { U := fun o => X.U o ∨ o = i, ρ := upd X.ρ i h, Φ := X.Φ, w := w' } x h) :
    Rel w0 m ρ0 Φ0 (upd H i (some x)) { U := fun o => X.U o ∨ o = i, ρ := upd X.ρ i h, Φ := X.Φ, w := w' } ∧
      Later X { U := fun o => X.U o ∨ o = i, ρ := upd X.ρ i h, Φ := X.Φ, w := w' } := by
  obtain ⟨r1, l1⟩ := r.later ho ht hp hs hbl
  have ne : ∀ o, X.U o → o ≠ i := fun o hu e => hi (e ▸ hu)
  have hl : Later X { U := fun o => X.U o ∨ o = i, ρ := upd X.ρ i h, Φ := X.Φ, w := w' } :=
    ⟨fun _ h => .inl h, fun o hu => upd_ne _ _ _ (ne o hu), fun _ h => h, fun b hb => hbl b (r.fro b hb)⟩
  have inH : ∀ o y, upd H i (some x) o = some y → (o = i ∧ y = x) ∨ (o ≠ i ∧ H o = some y) := by
    intro o y hy
    by_cases e : o = i
    · subst e; rw [upd_same] at hy; exact .inl ⟨rfl, (Option.some.inj hy).symm⟩
    · rw [upd_ne _ _ _ e] at hy; exact .inr ⟨e, hy⟩
  refine ⟨⟨r1.os, r1.tape, r1.output, r1.size, r1.block, ?_, ?_, ?_, ?_, ?_, r1.fro, r1.phi, r.glob.mono hl.Φ hl.w⟩, hl⟩
  · intro o ho'
    show upd X.ρ i h o = ρ0 o
    rw [upd_ne _ _ _ (by omega)]
    exact r.pin o ho'
  · intro o y hy
    rcases inH o y hy with ⟨rfl, rfl⟩ | ⟨e, hy'⟩
    · exact ⟨.inr rfl, by simpa [upd_same] using hor⟩
    · obtain ⟨hu, hor'⟩ := r.obj o y hy'
      refine ⟨.inl hu, ?_⟩
      have : upd X.ρ i h o = X.ρ o := upd_ne _ _ _ e
      simp only [this]
      exact hor'.later hl fun b hbb => hbl b (hor'.lt hbb)
  · intro o o' y y' b hy hy' e1 e2
    rcases inH o y hy with ⟨rfl, rfl⟩ | ⟨ne1, h1⟩
    · rcases inH o' y' hy' with ⟨rfl, rfl⟩ | ⟨ne2, h2⟩
      · rfl
      · exfalso
        simp only [upd_same, upd_ne _ _ _ ne2] at e1 e2
        have := hlow b e1
        have := ((r.obj o' y' h2).2).lt e2
        omega
    · rcases inH o' y' hy' with ⟨rfl, rfl⟩ | ⟨ne2, h2⟩
      · exfalso
        simp only [upd_same, upd_ne _ _ _ ne1] at e1 e2
        have := hlow b e2
        have := ((r.obj o y h1).2).lt e1
        omega
      · simp only [upd_ne _ _ _ ne1, upd_ne _ _ _ ne2] at e1 e2
        exact r.inj o o' y y' b h1 h2 e1 e2
  · intro o y b hy e1
    rcases inH o y hy with ⟨rfl, rfl⟩ | ⟨ne1, h1⟩
    · simp only [upd_same] at e1
      exact .inl (Nat.le_trans r.size (hlow b e1))
    · simp only [upd_ne _ _ _ ne1] at e1
      exact r.own o y b h1 e1
  · intro o y b hy e1 hΦ
    rcases inH o y hy with ⟨rfl, rfl⟩ | ⟨ne1, h1⟩
    · simp only [upd_same] at e1
      have := hlow b e1
      have := r.fro b hΦ
      omega
    · simp only [upd_ne _ _ _ ne1] at e1
      exact r.dis o y b h1 e1 hΦ

/-- An object that nobody needs any more. -/
theorem Rel.drop {w0 : World} {m : Nat} {ρ0 : Nat → Value} {Φ0 : Nat → Prop} {H H' : Nat → Option EO} {X : Cx} (r : Rel w0 m ρ0 Φ0 H X) (h : ∀ o x, H' o = some x → H o = some x) : Rel w0 m ρ0 Φ0 H' X :=
  ⟨r.os, r.tape, r.output, r.size, r.block, r.pin, fun o x hx => r.obj o x (h o x hx), fun o o' x x' b h1 h2 => r.inj o o' x x' b (h _ _ h1) (h _ _ h2), fun o x b hx => r.own o x b (h _ _ hx), fun o x b hx => r.dis o x b (h _ _ hx), r.fro, r.phi, r.glob⟩

/-- A new block that is frozen at once. -/
theorem Rel.newFrozen {w0 : World} {m : Nat} {ρ0 : Nat → Value} {Φ0 : Nat → Prop} {H : Nat → Option EO} {X : Cx} (r : Rel w0 m ρ0 Φ0 H X) {w' : World}
    (ho : w'.os = X.w.os) (ht : w'.tape = X.w.tape) (hp : w'.output = X.w.output) (hs : X.w.heap.size ≤ w'.heap.size) (hbl : ∀ b, b < X.w.heap.size → w'.heap[b]? = X.w.heap[b]?)
    (g : Nat) (hg : X.w.heap.size ≤ g) (hg' : g < w'.heap.size) :
    Rel w0 m ρ0 Φ0 H { X with Φ := fun b => X.Φ b ∨ b = g, w := w' } ∧ Later X { X with Φ := fun b => X.Φ b ∨ b = g, w := w' } := by
  obtain ⟨r1, l1⟩ := r.later ho ht hp hs hbl
  have hl : Later X { X with Φ := fun b => X.Φ b ∨ b = g, w := w' } := ⟨fun _ h => h, fun _ _ => rfl, fun _ h => .inl h, fun b hb => hbl b (r.fro b hb)⟩
  refine ⟨⟨r1.os, r1.tape, r1.output, r1.size, r1.block, r1.pin, ?_, r1.inj, r1.own, ?_, ?_, ?_, r.glob.mono hl.Φ hl.w⟩, hl⟩
  · intro o x hx
    obtain ⟨hu, hor⟩ := r.obj o x hx
    exact ⟨hu, hor.later hl fun b hbb => hbl b (hor.lt hbb)⟩
  · intro o x b hx e1 hΦ
    rcases hΦ with hΦ | rfl
    · exact r.dis o x b hx e1 hΦ
    · have := ((r.obj o x hx).2).lt e1
      omega
  · intro b hΦ
    rcases hΦ with hΦ | rfl
    · exact Nat.lt_of_lt_of_le (r.fro b hΦ) hs
    · exact hg'
  · intro b hΦ
    rcases hΦ with hΦ | rfl
    · exact r.phi b hΦ
    · exact .inr (.inl (Nat.le_trans r.size hg))

/-- The block of one object turns; its new content is known. -/
theorem Rel.write {w0 : World} {m : Nat} {ρ0 : Nat → Value} {Φ0 : Nat → Prop} {H : Nat → Option EO} {X : Cx} (r : Rel w0 m ρ0 Φ0 H X) {w' : World}
    (ho : w'.os = X.w.os) (ht : w'.tape = X.w.tape) (hp : w'.output = X.w.output) (hs : w'.heap.size = X.w.heap.size)
    (i : Nat) (x0 : EO) (hi : H i = some x0) (b : Nat) (hbi : hb (X.ρ i) = some b) (hbl : ∀ k, k ≠ b → w'.heap[k]? = X.w.heap[k]?)
    (x : EO) (hor : OR { X with w := w' } x (X.ρ i)) :
    Rel w0 m ρ0 Φ0 (upd H i (some x)) { X with w := w' } ∧ Later X { X with w := w' } := by
  have nΦ : ∀ k, X.Φ k → k ≠ b := fun k hk e => r.dis i x0 b hi hbi (e ▸ hk)
  have hl : Later X { X with w := w' } := ⟨fun _ h => h, fun _ _ => rfl, fun _ h => h, fun k hk => hbl k (nΦ k hk)⟩
  have inH : ∀ o y, upd H i (some x) o = some y → (o = i ∧ y = x) ∨ (o ≠ i ∧ H o = some y) := by
    intro o y hy
    by_cases e : o = i
    · subst e; rw [upd_same] at hy; exact .inl ⟨rfl, (Option.some.inj hy).symm⟩
    · rw [upd_ne _ _ _ e] at hy; exact .inr ⟨e, hy⟩
  have live : ∀ o y, upd H i (some x) o = some y → ∃ z, H o = some z := by
    intro o y hy
    rcases inH o y hy with ⟨rfl, rfl⟩ | ⟨_, h⟩
    · exact ⟨x0, hi⟩
    · exact ⟨y, h⟩
  refine ⟨⟨ho.trans r.os, ht.trans r.tape, hp.trans r.output, by simp only [hs]; exact r.size, ?_, r.pin, ?_, ?_, ?_, ?_, ?_, r.phi, r.glob.mono hl.Φ hl.w⟩, hl⟩
  · intro k hk hn
    have : k ≠ b := by
      rintro rfl
      rcases r.own i x0 k hi hbi with h | ⟨o', h1, h2⟩
      · omega
      · exact hn o' h1 h2
    exact (hbl k this).trans (r.block k hk hn)
  · intro o y hy
    rcases inH o y hy with ⟨rfl, rfl⟩ | ⟨e, hy'⟩
    · exact ⟨(r.obj o x0 hi).1, hor⟩
    · obtain ⟨hu, hor'⟩ := r.obj o y hy'
      refine ⟨hu, hor'.later hl fun k hk => hbl k ?_⟩
      rintro rfl
      exact e (r.inj o i y x0 k hy' hi hk hbi)
  · intro o o' y y' k h1 h2
    obtain ⟨z, hz⟩ := live o y h1
    obtain ⟨z', hz'⟩ := live o' y' h2
    exact r.inj o o' z z' k hz hz'
  · intro o y k h1
    obtain ⟨z, hz⟩ := live o y h1
    exact r.own o z k hz
  · intro o y k h1
    obtain ⟨z, hz⟩ := live o y h1
    exact r.dis o z k hz
  · intro k hk
    simp only [hs]
    exact r.fro k hk

end Go.EW
