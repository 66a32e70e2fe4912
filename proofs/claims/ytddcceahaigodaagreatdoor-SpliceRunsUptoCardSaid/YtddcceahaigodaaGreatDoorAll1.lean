import Derived.Below
import Derived.Orders
import Derived.Laws.AppendOwn
import Derived.Laws.Tables
import Derived.Deep.WholeRow
import Derived.KernelRfl
import Derived.DeepKeys3
import Derived.MapKept
import Derived.Laws.Entries
import Derived.Laws.Pointers
import Derived.Laws.Cover3
import Derived.Lib.ConvBytes
import Derived.Laws.Small
import Derived.Laws.Cover1
namespace Go.EW
theorem _root_.List.tkL {α : Type} {l : List α} {i : Nat} (h : l.length ≤ i) : l.take i = l := List.take_of_length_le h
theorem _root_.List.mgE {α : Type} {l : List α} {i : Nat} {a : α} (h : l[i]? = some a) : a ∈ l := List.mem_of_getElem? h
open Go
inductive FV where
 | lit (v : Value)
 | sl (es : Nat) (xs : List (List FV))
 | slc (es : Nat) (xs : List (List FV))
 deriving Inhabited
def ordN : List Int := [0, 1, 2, 3, 4, 5, 6, 7, 8, 9, 10, 11, 12, 13, 14, 15, 14, 10, 4, 8, 9, 15, 13, 6, 1, 12, 0, 2, 11, 7, 5, 3, 11, 8, 12, 0, 5, 2, 15, 13, 10, 14, 3, 6, 7, 1, 9, 4, 7, 9, 3, 1, 13, 12, 11, 14, 2, 6, 5, 10, 4, 0, 15, 8, 9, 0, 5, 7, 2, 4, 10, 15, 14, 1, 11, 12, 6, 8, 3, 13, 2, 12, 6, 10, 0, 11, 8, 3, 4, 13, 7, 5, 15, 14, 1, 9, 12, 5, 1, 15, 14, 13, 4, 10, 0, 7, 6, 3, 9, 2, 8, 11, 13, 11, 7, 14, 12, 1, 3, 9, 5, 0, 15, 4, 8, 6, 2, 10, 6, 15, 14, 9, 11, 3, 0, 8, 12, 2, 13, 7, 1, 4, 10, 5, 10, 2, 8, 4, 7, 6, 1, 5, 15, 11, 9, 14, 3, 12, 13, 0]
def gcells : Nat → Option (List FV)
 | 0 => some [.lit (.iface 252 (.agg #[.pointer (some ⟨2, 51, none⟩)]))]
 | 1 => some (ordN.map fun n => .lit (.int .u8 n))
 | _ => none
end Go.EW
namespace Go.EW
open Go
def All2 {α β : Type} (R : α → β → Prop) (xs : List α) (ys : List β) : Prop :=
 xs.length = ys.length ∧ ∀ (i : Nat) (x : α) (y : β), xs[i]? = some x → ys[i]? = some y → R x y
theorem All2.nil {α β : Type} {R : α → β → Prop} : All2 R [] [] := ⟨rfl, by simp⟩
theorem All2.cons {α β : Type} {R : α → β → Prop} {x : α} {y : β} {xs : List α} {ys : List β} (h : R x y) (t : All2 R xs ys) : All2 R (x :: xs) (y :: ys) := by
 refine ⟨by simp [t.1], ?_⟩
 intro i a b ha hb
 cases i with
 | zero => simp at ha hb; subst ha; subst hb; exact h
 | succ i => exact t.2 i a b (by simpa using ha) (by simpa using hb)
theorem All2.head {α β : Type} {R : α → β → Prop} {x : α} {y : β} {xs : List α} {ys : List β} (t : All2 R (x :: xs) (y :: ys)) : R x y := t.2 0 x y rfl rfl
theorem All2.tail {α β : Type} {R : α → β → Prop} {x : α} {y : β} {xs : List α} {ys : List β} (t : All2 R (x :: xs) (y :: ys)) : All2 R xs ys :=
 ⟨by simpa using t.1, fun i a b ha hb => t.2 (i + 1) a b (by simpa using ha) (by simpa using hb)⟩
theorem All2.mono {α β : Type} {R R' : α → β → Prop} {xs : List α} {ys : List β} (t : All2 R xs ys) (h : ∀ x y, R x y → R' x y) : All2 R' xs ys :=
 ⟨t.1, fun i a b ha hb => h _ _ (t.2 i a b ha hb)⟩
theorem All2.get {α β : Type} {R : α → β → Prop} {xs : List α} {ys : List β} (t : All2 R xs ys) {i : Nat} {x : α} (h : xs[i]? = some x) : ∃ y, ys[i]? = some y ∧ R x y := by
 have hi : i < xs.length := by
  rcases Nat.lt_or_ge i xs.length with h' | h'
  ·exact h'
  ·rw [List.getElem?_eq_none h'] at h; simp at h
 have hj : i < ys.length := t.1 ▸ hi
 exact ⟨ys[i], by simp [hj], t.2 i x _ h (by simp [hj])⟩
theorem All2.get' {α β : Type} {R : α → β → Prop} {xs : List α} {ys : List β} (t : All2 R xs ys) {i : Nat} {y : β} (h : ys[i]? = some y) : ∃ x, xs[i]? = some x ∧ R x y := by
 have hi : i < ys.length := by
  rcases Nat.lt_or_ge i ys.length with h' | h'
  ·exact h'
  ·rw [List.getElem?_eq_none h'] at h; simp at h
 have hj : i < xs.length := t.1 ▸ hi
 exact ⟨xs[i], by simp [hj], t.2 i _ y (by simp [hj]) h⟩
theorem All2.set {α β : Type} {R : α → β → Prop} {xs : List α} {ys : List β} (t : All2 R xs ys) (i : Nat) {x : α} {y : β} (h : R x y) : All2 R (xs.set i x) (ys.set i y) := by
 refine ⟨by simp [t.1], ?_⟩
 intro j a b ha hb
 rw [List.getElem?_set] at ha hb
 by_cases e : i = j
 ·subst e
  simp only [if_true] at ha hb
  split at ha
  ·split at hb
   ·simp at ha hb; subst ha; subst hb; exact h
   ·simp at hb
  ·simp at ha
 ·rw [if_neg e] at ha hb
  exact t.2 j a b ha hb
theorem All2.append {α β : Type} {R : α → β → Prop} {xs xs' : List α} {ys ys' : List β} (t : All2 R xs ys) (t' : All2 R xs' ys') : All2 R (xs ++ xs') (ys ++ ys') := by
 refine ⟨by simp [t.1, t'.1], ?_⟩
 intro i a b ha hb
 rw [List.getElem?_append] at ha hb
 rw [t.1] at ha
 split at ha
 ·rename_i h; rw [if_pos h] at hb; exact t.2 i a b ha hb
 ·rename_i h; rw [if_neg h] at hb; exact t'.2 _ a b ha hb
theorem All2.take {α β : Type} {R : α → β → Prop} {xs : List α} {ys : List β} (t : All2 R xs ys) (n : Nat) : All2 R (xs.take n) (ys.take n) := by
 refine ⟨by simp [t.1], ?_⟩
 intro i a b ha hb
 rw [List.getElem?_take] at ha hb
 split at ha
 ·rename_i h; rw [if_pos h] at hb; exact t.2 i a b ha hb
 ·simp at ha
theorem All2.drop {α β : Type} {R : α → β → Prop} {xs : List α} {ys : List β} (t : All2 R xs ys) (n : Nat) : All2 R (xs.drop n) (ys.drop n) := by
 refine ⟨by simp [t.1], ?_⟩
 intro i a b ha hb
 rw [List.getElem?_drop] at ha hb
 exact t.2 _ a b ha hb
theorem All2.map {α β γ δ : Type} {R : α → β → Prop} {S : γ → δ → Prop} {f : α → γ} {g : β → δ} {xs : List α} {ys : List β} (t : All2 R xs ys) (h : ∀ x y, R x y → S (f x) (g y)) : All2 S (xs.map f) (ys.map g) := by
 refine ⟨by simp [t.1], ?_⟩
 intro i a b ha hb
 simp only [List.getElem?_map, Option.map_eq_some_iff] at ha hb
 obtain ⟨a', ha', rfl⟩ := ha
 obtain ⟨b', hb', rfl⟩ := hb
 exact h _ _ (t.2 i _ _ ha' hb')
theorem All2.nil_left {α β : Type} {R : α → β → Prop} {ys : List β} (t : All2 R [] ys) : ys = [] := by
 have := t.1; simp at this; exact List.eq_nil_of_length_eq_zero this.symm
theorem All2.cons_left {α β : Type} {R : α → β → Prop} {x : α} {xs : List α} {ys : List β} (t : All2 R (x :: xs) ys) : ∃ y ys', ys = y :: ys' ∧ R x y ∧ All2 R xs ys' := by
 cases ys with
 | nil => have := t.1; simp at this
 | cons y ys' => exact ⟨y, ys', rfl, t.head, t.tail⟩
inductive EC where
 | fz (x : FV)
 | ptr (o k : Nat)
 | eptr (o es i k : Nat)
 | row (o len : Nat)
 | bsl (o k len : Nat)
 | rsl (o k len : Nat)
 | fptr (cs : List FV) (k : Nat)
 | clo (f : FuncId) (caps : List (Nat × Nat))
 | mp (o : Nat)
 deriving Inhabited
inductive TV where
 | c (x : EC)
 | agg (cs : List EC)
 deriving Inhabited
inductive EV where
 | v (t : TV)
 | tup (ts : List TV)
 | any
 deriving Inhabited
inductive EO where
 | box (ty : TypeId) (cells : List EC)
 | row (ty : TypeId) (es : Nat) (elems : List (List FV))
 | mp (rs : List (Nat × IntKind)) (ents : List (List Int × Value))
 | abs (I : World → Nat → Prop) (foot : List Nat)
 deriving Inhabited
def unrle (rs : List (Nat × IntKind)) : List IntKind := rs.flatMap fun p => List.replicate p.1 p.2
def rle : List IntKind → List (Nat × IntKind)
 | [] => []
 | k :: r => match rle r with
  | (n, k') :: r' => if k = k' then (n + 1, k) :: r' else (1, k) :: (n, k') :: r'
  | [] => [(1, k)]
def FitK (ks : List IntKind) (cs : List Value) : Prop := All2 (fun k v => ∃ n, v = Value.int k n ∧ (Lit.int k n).wf = true) ks cs
def cellsI (rs : List (Nat × IntKind)) (ns : List Int) : List Value := List.zipWith Value.int (unrle rs) ns
def FitI (rs : List (Nat × IntKind)) (ns : List Int) : Prop := ns.length = (unrle rs).length ∧ FitK (unrle rs) (cellsI rs ns)
inductive FR (Φ : Nat → Prop) (w : World) : FV → Value → Prop
 | lit (v : Value) : v.oneCell' = true → FR Φ w (.lit v) v
 | sl (es : Nat) (xs : List (List FV)) (b off cap : Nat) (vs : List Value) :
   Φ b → 0 < es → (∀ x ∈ xs, x.length = es) → vs.length = xs.length * es → xs.length ≤ cap →
   (∀ (j : Nat) (u : Value), vs[j]? = some u → w.cell? ⟨b, off + j, none⟩ = some u) →
   (∀ (j : Nat) (x : FV) (u : Value), xs.flatten[j]? = some x → vs[j]? = some u → FR Φ w x u) →
   FR Φ w (.sl es xs) (.slice (some ⟨b, off, none⟩) xs.length cap)
 | emp (es : Nat) (a : Option Addr) (cap : Nat) : FR Φ w (.sl es []) (.slice a 0 cap)
 | slc (es : Nat) (xs : List (List FV)) (a : Option Addr) : FR Φ w (.sl es xs) (.slice a xs.length xs.length) → FR Φ w (.slc es xs) (.slice a xs.length xs.length)
theorem FR.oneCell {Φ : Nat → Prop} {w : World} {x : FV} {v : Value} (h : FR Φ w x v) : v.oneCell' = true := by
 cases h <;> first | assumption | rfl
theorem FR.stable {Φ Φ' : Nat → Prop} {w w' : World} (hc : ∀ b, Φ b → w'.heap[b]? = w.heap[b]?) (hΦ : ∀ b, Φ b → Φ' b) {x : FV} {v : Value} (h : FR Φ w x v) : FR Φ' w' x v := by
 induction h with
 | lit v h => exact .lit v h
 | emp es a cap => exact .emp es a cap
 | slc es xs a _ ih => exact .slc es xs a ih
 | sl es xs b off cap vs hb h0 hl hn hcap hcell _ ih =>
  refine .sl es xs b off cap vs (hΦ b hb) h0 hl hn hcap ?_ ih
  intro j u hu
  rw [World.cell?_of_block (w := w) (hc b hb)]
  exact hcell j u hu
def hb : Value → Option Nat
 | .pointer (some a) => some a.block
 | .slice (some a) _ _ => some a.block
 | .map (some b) => some b
 | _ => none
def ft : EO → Value → Nat → Prop
 | .abs _ fs, v, b => hb v = some b ∨ b ∈ fs
 | .box _ _, v, b => hb v = some b
 | .row _ _ _, v, b => hb v = some b
 | .mp _ _, v, b => hb v = some b
theorem ft_hb {x : EO} {v : Value} {b : Nat} (h : hb v = some b) : ft x v b := by
 cases x with
 | abs I fs => exact .inl h
 | box ty cs => exact h
 | row ty es xs => exact h
 | mp rs es => exact h
structure Base where
 ρ : Nat → Value
 F : Nat → Prop
def feet (H : Nat → Option EO) (ρ : Nat → Value) (b : Nat) : Prop := ∃ o x, H o = some x ∧ ft x (ρ o) b
structure Cx where
 U : Nat → Prop
 ρ : Nat → Value
 Φ : Nat → Prop
 w : World
def VR (X : Cx) : EC → Value → Prop
 | .fz x, v => FR X.Φ X.w x v
 | .ptr o k, v => X.U o ∧ ∃ b, X.ρ o = .pointer (some ⟨b, 0, none⟩) ∧ v = .pointer (some ⟨b, k, none⟩)
 | .eptr o es i k, v => X.U o ∧ ∃ b n cap, X.ρ o = .slice (some ⟨b, 0, none⟩) n cap ∧ v = .pointer (some ⟨b, i * es + k, none⟩)
 | .row o len, v => X.U o ∧ ∃ a n cap, X.ρ o = .slice a n cap ∧ len ≤ n ∧ n ≤ cap ∧ v = .slice a len cap
 | .bsl o k len, v => X.U o ∧ ∃ b, X.ρ o = .pointer (some ⟨b, 0, none⟩) ∧ ∃ cap, len ≤ cap ∧ v = .slice (some ⟨b, k, none⟩) len cap
 | .rsl o k len, v => X.U o ∧ ∃ a n c cap, X.ρ o = .slice a n c ∧ len ≤ cap ∧ v = .slice (a.map fun ad => ad.add k) len cap
 | .fptr cs k, v => ∃ b off, X.Φ b ∧ v = .pointer (some ⟨b, off + k, none⟩) ∧ ∃ vs : List Value, cs.length = vs.length ∧ (∀ (j : Nat) (u : Value), vs[j]? = some u → X.w.cell? ⟨b, off + j, none⟩ = some u) ∧ (∀ (j : Nat) (x : FV) (u : Value), cs[j]? = some x → vs[j]? = some u → FR X.Φ X.w x u)
 | .clo f caps, v => ∃ vs : List Value, v = .func (.func f) #[] vs.toArray ∧ All2 (fun (p : Nat × Nat) u => X.U p.1 ∧ ∃ b, X.ρ p.1 = .pointer (some ⟨b, 0, none⟩) ∧ u = .pointer (some ⟨b, p.2, none⟩)) caps vs
 | .mp o, v => X.U o ∧ ∃ b, X.ρ o = .map (some b) ∧ v = .map (some b)
def VT (X : Cx) : TV → Value → Prop
 | .c x, v => VR X x v
 | .agg cs, v => ∃ vs : List Value, v = .agg vs.toArray ∧ All2 (VR X) cs vs
def VV (X : Cx) : EV → Value → Prop
 | .v t, v => VT X t v
 | .tup ts, v => ∃ vs : List Value, v = .tuple vs.toArray ∧ All2 (VT X) ts vs
 | .any, _ => True
def GOK (X : Cx) : Prop := ∀ g cs, gcells g = some cs → X.Φ g ∧ ∀ (j : Nat) (x : FV), cs[j]? = some x → ∃ u, X.w.cell? ⟨g, j, none⟩ = some u ∧ FR X.Φ X.w x u
theorem GOK.mono {X Y : Cx} (k : GOK X) (hΦ : ∀ b, X.Φ b → Y.Φ b) (hw : ∀ b, X.Φ b → Y.w.heap[b]? = X.w.heap[b]?) : GOK Y := by
 intro g cs hg
 obtain ⟨h1, h2⟩ := k g cs hg
 refine ⟨hΦ g h1, fun j x hx => ?_⟩
 obtain ⟨u, hu, hr⟩ := h2 j x hx
 exact ⟨u, by rw [World.cell?_of_block (w := X.w) (hw g h1)]; exact hu, hr.stable hw hΦ⟩
structure Later (X Y : Cx) : Prop where
 U : ∀ o, X.U o → Y.U o
 ρ : ∀ o, X.U o → Y.ρ o = X.ρ o
 Φ : ∀ b, X.Φ b → Y.Φ b
 w : ∀ b, X.Φ b → Y.w.heap[b]? = X.w.heap[b]?
theorem Later.refl (X : Cx) : Later X X := ⟨fun _ h => h, fun _ _ => rfl, fun _ h => h, fun _ _ => rfl⟩
theorem Later.trans {X Y Z : Cx} (h : Later X Y) (k : Later Y Z) : Later X Z :=
 ⟨fun o ho => k.U o (h.U o ho), fun o ho => (k.ρ o (h.U o ho)).trans (h.ρ o ho), fun b hb => k.Φ b (h.Φ b hb), fun b hb => (k.w b (h.Φ b hb)).trans (h.w b hb)⟩
theorem Later.fr {X Y : Cx} (h : Later X Y) {x : FV} {v : Value} (k : FR X.Φ X.w x v) : FR Y.Φ Y.w x v := k.stable h.w h.Φ
theorem Later.vr {X Y : Cx} (h : Later X Y) {x : EC} {v : Value} (k : VR X x v) : VR Y x v := by
 cases x with
 | fz x => exact h.fr k
 | ptr o i => exact ⟨h.U o k.1, by rw [h.ρ o k.1]; exact k.2⟩
 | eptr o es i j => exact ⟨h.U o k.1, by rw [h.ρ o k.1]; exact k.2⟩
 | row o len => exact ⟨h.U o k.1, by rw [h.ρ o k.1]; exact k.2⟩
 | bsl o i len => exact ⟨h.U o k.1, by rw [h.ρ o k.1]; exact k.2⟩
 | rsl o i len => exact ⟨h.U o k.1, by rw [h.ρ o k.1]; exact k.2⟩
 | fptr cs i =>
  obtain ⟨b, off, hb, hv, vs, hl, hc, hf⟩ := k
  exact ⟨b, off, h.Φ b hb, hv, vs, hl, fun j u hu => by rw [World.cell?_of_block (w := X.w) (h.w b hb)]; exact hc j u hu, fun j x u hx hu => h.fr (hf j x u hx hu)⟩
 | clo f caps =>
  obtain ⟨vs, hv, ha⟩ := k
  exact ⟨vs, hv, ha.mono fun p u hp => ⟨h.U _ hp.1, by rw [h.ρ _ hp.1]; exact hp.2⟩⟩
 | mp o => exact ⟨h.U o k.1, by rw [h.ρ o k.1]; exact k.2⟩
theorem Later.vt {X Y : Cx} (h : Later X Y) {x : TV} {v : Value} (k : VT X x v) : VT Y x v := by
 cases x with
 | c x => exact h.vr k
 | agg cs => obtain ⟨vs, hv, ha⟩ := k; exact ⟨vs, hv, ha.mono fun _ _ => h.vr⟩
theorem Later.vv {X Y : Cx} (h : Later X Y) {x : EV} {v : Value} (k : VV X x v) : VV Y x v := by
 cases x with
 | v x => exact h.vt k
 | tup ts => obtain ⟨vs, hv, ha⟩ := k; exact ⟨vs, hv, ha.mono fun _ _ => h.vt⟩
 | any => trivial
theorem VR.oneCell {X : Cx} {x : EC} {v : Value} (h : VR X x v) : v.oneCell' = true := by
 cases x with
 | fz x => exact FR.oneCell h
 | ptr o k => obtain ⟨_, b, _, rfl⟩ := h; rfl
 | eptr o es i k => obtain ⟨_, b, n, cap, _, rfl⟩ := h; rfl
 | row o len => obtain ⟨_, a, n, cap, _, _, _, rfl⟩ := h; rfl
 | bsl o k len => obtain ⟨_, b, _, cap, _, rfl⟩ := h; rfl
 | rsl o k len => obtain ⟨_, a, n, c, cap, _, _, rfl⟩ := h; rfl
 | fptr cs k => obtain ⟨b, off, _, rfl, _⟩ := h; rfl
 | clo f caps => obtain ⟨vs, rfl, _⟩ := h; rfl
 | mp o => obtain ⟨_, b, _, rfl⟩ := h; rfl
def OR (X : Cx) : EO → Value → Prop
 | .box ty cells, h => ∃ b c, h = .pointer (some ⟨b, 0, none⟩) ∧ X.w.heap[b]? = some (.cells c ty (0, 0)) ∧ All2 (VR X) cells c.toList
 | .row ty es elems, h => 0 < es ∧ (∀ x ∈ elems, x.length = es) ∧ ∃ flat, X.w.ownsRow 0 ty es h elems.length flat ∧ All2 (FR X.Φ X.w) elems.flatten flat
 | .mp rs ents, h => (ents.map (·.1)).Nodup ∧ (∀ p ∈ ents, FitI rs p.1 ∧ p.2.oneCell' = true) ∧ ∃ b es clock, h = .map (some b) ∧ X.w.heap[b]? = some (.map es clock) ∧ es.toList.map (fun e => (e.key, e.val)) = (ents.map fun p => (Value.agg (cellsI rs p.1).toArray, p.2)) ∧ es.toList.map (·.born) = List.range ents.length ∧ clock = ents.length
 | .abs I fs, h => ∃ b, h = .pointer (some ⟨b, 0, none⟩) ∧ b < X.w.heap.size ∧ b ∉ fs ∧ (∀ f ∈ fs, f < X.w.heap.size) ∧ I X.w b ∧ ∀ w' : World, (∀ k, k = b ∨ k ∈ fs → w'.heap[k]? = X.w.heap[k]?) → I w' b
structure Rel (w0 : World) (m : Nat) (ρ0 : Base) (Φ0 : Nat → Prop) (H : Nat → Option EO) (X : Cx) : Prop where
 os : X.w.os = w0.os
 tape : X.w.tape = w0.tape
 output : X.w.output = w0.output
 size : w0.heap.size ≤ X.w.heap.size
 block : ∀ b, b < w0.heap.size → ¬ ρ0.F b → X.w.heap[b]? = w0.heap[b]?
 pin : ∀ o, o < m → X.ρ o = ρ0.ρ o
 obj : ∀ o x, H o = some x → X.U o ∧ OR X x (X.ρ o)
 inj : ∀ o o' x x' b, H o = some x → H o' = some x' → ft x (X.ρ o) b → ft x' (X.ρ o') b → o = o'
 own : ∀ o x b, H o = some x → ft x (X.ρ o) b → w0.heap.size ≤ b ∨ ρ0.F b
 dis : ∀ o x b, H o = some x → ft x (X.ρ o) b → ¬ X.Φ b
 fro : ∀ b, X.Φ b → b < X.w.heap.size
 phi : ∀ b, X.Φ b → Φ0 b ∨ w0.heap.size ≤ b ∨ ρ0.F b
 glob : GOK X
theorem OR.lt {X : Cx} {x : EO} {h : Value} (k : OR X x h) {b : Nat} (hbb : ft x h b) : b < X.w.heap.size := by
 cases x with
 | abs I fs =>
  obtain ⟨b', rfl, h1, _, h2, _⟩ := k
  rcases hbb with hbb | hbb
  ·simp [hb] at hbb; subst hbb; exact h1
  ·exact h2 b hbb
 | box ty cells =>
  obtain ⟨b', c, rfl, hh, _⟩ := k
  simp [ft, hb] at hbb; subst hbb
  exact (Array.getElem?_eq_some_iff.1 hh).1
 | row ty es elems =>
  obtain ⟨_, _, flat, ho, _⟩ := k
  rcases ho.2 with ⟨rfl, _⟩ | ⟨g, cap, cur, rfl, _, hg, _⟩
  ·simp [ft, hb] at hbb
  ·simp [ft, hb] at hbb; subst hbb
   exact (Array.getElem?_eq_some_iff.1 hg).1
 | mp rs ents =>
  obtain ⟨_, _, b', es, clock, rfl, hh, _⟩ := k
  simp [ft, hb] at hbb; subst hbb
  exact (Array.getElem?_eq_some_iff.1 hh).1
theorem OR.later {X Y : Cx} (h : Later X Y) {x : EO} {v : Value} (k : OR X x v) (hw : ∀ b, ft x v b → Y.w.heap[b]? = X.w.heap[b]?) : OR Y x v := by
 cases x with
 | abs I fs =>
  obtain ⟨b, rfl, h1, hn, h2, h3, h4⟩ := k
  have hlt : ∀ f : Nat, f < X.w.heap.size → Y.w.heap[f]? = X.w.heap[f]? → f < Y.w.heap.size := by
   intro f hf e
   rw [Array.getElem?_eq_getElem hf] at e
   exact (Array.getElem?_eq_some_iff.1 e).1
  have hs : ∀ k, k = b ∨ k ∈ fs → Y.w.heap[k]? = X.w.heap[k]? := by
   rintro k (rfl | hk)
   ·exact hw _ (.inl rfl)
   ·exact hw _ (.inr hk)
  exact ⟨b, rfl, hlt b h1 (hs b (.inl rfl)), hn, fun f hf => hlt f (h2 f hf) (hs f (.inr hf)), h4 Y.w hs, fun w' hw' => h4 w' fun k hk => (hw' k hk).trans (hs k hk)⟩
 | box ty cells =>
  obtain ⟨b, c, rfl, hh, ha⟩ := k
  exact ⟨b, c, rfl, by rw [hw b rfl]; exact hh, ha.mono fun _ _ => h.vr⟩
 | row ty es elems =>
  obtain ⟨h0, hl, flat, ho, ha⟩ := k
  refine ⟨h0, hl, flat, ⟨ho.1, ?_⟩, ha.mono fun _ _ => h.fr⟩
  rcases ho.2 with hn | ⟨g, cap, cur, rfl, hbg, hg, rest⟩
  ·exact .inl hn
  ·exact .inr ⟨g, cap, cur, rfl, hbg, by rw [hw g rfl]; exact hg, rest⟩
 | mp rs ents =>
  obtain ⟨h0, h1, b, es, clock, rfl, hh, he⟩ := k
  exact ⟨h0, h1, b, es, clock, rfl, by rw [hw b rfl]; exact hh, he⟩
theorem Rel.later {w0 : World} {m : Nat} {ρ0 : Base} {Φ0 : Nat → Prop} {H : Nat → Option EO} {X : Cx} (r : Rel w0 m ρ0 Φ0 H X) {w' : World}
  (ho : w'.os = X.w.os) (ht : w'.tape = X.w.tape) (hp : w'.output = X.w.output) (hs : X.w.heap.size ≤ w'.heap.size) (hbl : ∀ b, b < X.w.heap.size → w'.heap[b]? = X.w.heap[b]?) :
  Rel w0 m ρ0 Φ0 H { X with w := w' } ∧ Later X { X with w := w' } := by
 have hl : Later X { X with w := w' } := ⟨fun _ h => h, fun _ _ => rfl, fun _ h => h, fun b hb => hbl b (r.fro b hb)⟩
 refine ⟨⟨ho.trans r.os, ht.trans r.tape, hp.trans r.output, Nat.le_trans r.size hs, ?_, r.pin, ?_, r.inj, r.own, r.dis, ?_, r.phi, r.glob.mono hl.Φ hl.w⟩, hl⟩
 ·intro b hb hn
  exact (hbl b (Nat.lt_of_lt_of_le hb r.size)).trans (r.block b hb hn)
 ·intro o x hx
  obtain ⟨hu, hor⟩ := r.obj o x hx
  exact ⟨hu, hor.later hl fun b hbb => hbl b (hor.lt hbb)⟩
 ·intro b hb
  exact Nat.lt_of_lt_of_le (r.fro b hb) hs
def upd {α : Type} (f : Nat → α) (i : Nat) (v : α) : Nat → α := fun j => if j = i then v else f j
theorem upd_same {α : Type} (f : Nat → α) (i : Nat) (v : α) : upd f i v i = v := by simp [upd]
theorem upd_ne {α : Type} (f : Nat → α) (i : Nat) (v : α) {j : Nat} (h : j ≠ i) : upd f i v j = f j := by simp [upd, h]
theorem Rel.new {w0 : World} {m : Nat} {ρ0 : Base} {Φ0 : Nat → Prop} {H : Nat → Option EO} {X : Cx} (r : Rel w0 m ρ0 Φ0 H X) {w' : World}
  (ho : w'.os = X.w.os) (ht : w'.tape = X.w.tape) (hp : w'.output = X.w.output) (hs : X.w.heap.size ≤ w'.heap.size) (hbl : ∀ b, b < X.w.heap.size → w'.heap[b]? = X.w.heap[b]?)
  (i : Nat) (hi : ¬ X.U i) (hm : m ≤ i) (x : EO) (h : Value) (hlow : ∀ b, ft x h b → X.w.heap.size ≤ b)
  (hor : OR { U := fun o => X.U o ∨ o = i, ρ := upd X.ρ i h, Φ := X.Φ, w := w' } x h) :
  Rel w0 m ρ0 Φ0 (upd H i (some x)) { U := fun o => X.U o ∨ o = i, ρ := upd X.ρ i h, Φ := X.Φ, w := w' } ∧
   Later X { U := fun o => X.U o ∨ o = i, ρ := upd X.ρ i h, Φ := X.Φ, w := w' } := by
 obtain ⟨r1, l1⟩ := r.later ho ht hp hs hbl
 have ne : ∀ o, X.U o → o ≠ i := fun o hu e => hi (e ▸ hu)
 have hl : Later X { U := fun o => X.U o ∨ o = i, ρ := upd X.ρ i h, Φ := X.Φ, w := w' } :=
  ⟨fun _ h => .inl h, fun o hu => upd_ne _ _ _ (ne o hu), fun _ h => h, fun b hb => hbl b (r.fro b hb)⟩
 have inH : ∀ o y, upd H i (some x) o = some y → (o = i ∧ y = x) ∨ (o ≠ i ∧ H o = some y) := by
  intro o y hy
  by_cases e : o = i
  ·subst e; rw [upd_same] at hy; exact .inl ⟨rfl, (Option.some.inj hy).symm⟩
  ·rw [upd_ne _ _ _ e] at hy; exact .inr ⟨e, hy⟩
 refine ⟨⟨r1.os, r1.tape, r1.output, r1.size, r1.block, ?_, ?_, ?_, ?_, ?_, r1.fro, r1.phi, r.glob.mono hl.Φ hl.w⟩, hl⟩
 ·intro o ho'
  show upd X.ρ i h o = ρ0.ρ o
  rw [upd_ne _ _ _ (by omega)]
  exact r.pin o ho'
 ·intro o y hy
  rcases inH o y hy with ⟨rfl, rfl⟩ | ⟨e, hy'⟩
  ·exact ⟨.inr rfl, by simpa [upd_same] using hor⟩
  ·obtain ⟨hu, hor'⟩ := r.obj o y hy'
   refine ⟨.inl hu, ?_⟩
   have : upd X.ρ i h o = X.ρ o := upd_ne _ _ _ e
   simp only [this]
   exact hor'.later hl fun b hbb => hbl b (hor'.lt hbb)
 ·intro o o' y y' b hy hy' e1 e2
  rcases inH o y hy with ⟨rfl, rfl⟩ | ⟨ne1, h1⟩
  ·rcases inH o' y' hy' with ⟨rfl, rfl⟩ | ⟨ne2, h2⟩
   ·rfl
   ·exfalso
    simp only [upd_same, upd_ne _ _ _ ne2] at e1 e2
    have := hlow b e1
    have := ((r.obj o' y' h2).2).lt e2
    omega
  ·rcases inH o' y' hy' with ⟨rfl, rfl⟩ | ⟨ne2, h2⟩
   ·exfalso
    simp only [upd_same, upd_ne _ _ _ ne1] at e1 e2
    have := hlow b e2
    have := ((r.obj o y h1).2).lt e1
    omega
   ·simp only [upd_ne _ _ _ ne1, upd_ne _ _ _ ne2] at e1 e2
    exact r.inj o o' y y' b h1 h2 e1 e2
 ·intro o y b hy e1
  rcases inH o y hy with ⟨rfl, rfl⟩ | ⟨ne1, h1⟩
  ·simp only [upd_same] at e1
   exact .inl (Nat.le_trans r.size (hlow b e1))
  ·simp only [upd_ne _ _ _ ne1] at e1
   exact r.own o y b h1 e1
 ·intro o y b hy e1 hΦ
  rcases inH o y hy with ⟨rfl, rfl⟩ | ⟨ne1, h1⟩
  ·simp only [upd_same] at e1
   have := hlow b e1
   have := r.fro b hΦ
   omega
  ·simp only [upd_ne _ _ _ ne1] at e1
   exact r.dis o y b h1 e1 hΦ
theorem Rel.drop {w0 : World} {m : Nat} {ρ0 : Base} {Φ0 : Nat → Prop} {H H' : Nat → Option EO} {X : Cx} (r : Rel w0 m ρ0 Φ0 H X) (h : ∀ o x, H' o = some x → H o = some x) : Rel w0 m ρ0 Φ0 H' X :=
 ⟨r.os, r.tape, r.output, r.size, r.block, r.pin, fun o x hx => r.obj o x (h o x hx), fun o o' x x' b h1 h2 => r.inj o o' x x' b (h _ _ h1) (h _ _ h2), fun o x b hx => r.own o x b (h _ _ hx), fun o x b hx => r.dis o x b (h _ _ hx), r.fro, r.phi, r.glob⟩
theorem Rel.newFrozen {w0 : World} {m : Nat} {ρ0 : Base} {Φ0 : Nat → Prop} {H : Nat → Option EO} {X : Cx} (r : Rel w0 m ρ0 Φ0 H X) {w' : World}
  (ho : w'.os = X.w.os) (ht : w'.tape = X.w.tape) (hp : w'.output = X.w.output) (hs : X.w.heap.size ≤ w'.heap.size) (hbl : ∀ b, b < X.w.heap.size → w'.heap[b]? = X.w.heap[b]?)
  (g : Nat) (hg : X.w.heap.size ≤ g) (hg' : g < w'.heap.size) :
  Rel w0 m ρ0 Φ0 H { X with Φ := fun b => X.Φ b ∨ b = g, w := w' } ∧ Later X { X with Φ := fun b => X.Φ b ∨ b = g, w := w' } := by
 obtain ⟨r1, l1⟩ := r.later ho ht hp hs hbl
 have hl : Later X { X with Φ := fun b => X.Φ b ∨ b = g, w := w' } := ⟨fun _ h => h, fun _ _ => rfl, fun _ h => .inl h, fun b hb => hbl b (r.fro b hb)⟩
 refine ⟨⟨r1.os, r1.tape, r1.output, r1.size, r1.block, r1.pin, ?_, r1.inj, r1.own, ?_, ?_, ?_, r.glob.mono hl.Φ hl.w⟩, hl⟩
 ·intro o x hx
  obtain ⟨hu, hor⟩ := r.obj o x hx
  exact ⟨hu, hor.later hl fun b hbb => hbl b (hor.lt hbb)⟩
 ·intro o x b hx e1 hΦ
  rcases hΦ with hΦ | rfl
  ·exact r.dis o x b hx e1 hΦ
  ·have := ((r.obj o x hx).2).lt e1
   omega
 ·intro b hΦ
  rcases hΦ with hΦ | rfl
  ·exact Nat.lt_of_lt_of_le (r.fro b hΦ) hs
  ·exact hg'
 ·intro b hΦ
  rcases hΦ with hΦ | rfl
  ·exact r.phi b hΦ
  ·exact .inr (.inl (Nat.le_trans r.size hg))
theorem Rel.write {w0 : World} {m : Nat} {ρ0 : Base} {Φ0 : Nat → Prop} {H : Nat → Option EO} {X : Cx} (r : Rel w0 m ρ0 Φ0 H X) {w' : World}
  (ho : w'.os = X.w.os) (ht : w'.tape = X.w.tape) (hp : w'.output = X.w.output) (hs : w'.heap.size = X.w.heap.size)
  (i : Nat) (x0 : EO) (hi : H i = some x0) (b : Nat) (hbi : hb (X.ρ i) = some b) (hbl : ∀ k, k ≠ b → w'.heap[k]? = X.w.heap[k]?)
  (x : EO) (hor : OR { X with w := w' } x (X.ρ i)) (hx : ∀ k, ft x (X.ρ i) k → hb (X.ρ i) = some k := by intro k h; exact h) :
  Rel w0 m ρ0 Φ0 (upd H i (some x)) { X with w := w' } ∧ Later X { X with w := w' } := by
 have nΦ : ∀ k, X.Φ k → k ≠ b := fun k hk e => r.dis i x0 b hi (ft_hb hbi) (e ▸ hk)
 have hl : Later X { X with w := w' } := ⟨fun _ h => h, fun _ _ => rfl, fun _ h => h, fun k hk => hbl k (nΦ k hk)⟩
 have inH : ∀ o y, upd H i (some x) o = some y → (o = i ∧ y = x) ∨ (o ≠ i ∧ H o = some y) := by
  intro o y hy
  by_cases e : o = i
  ·subst e; rw [upd_same] at hy; exact .inl ⟨rfl, (Option.some.inj hy).symm⟩
  ·rw [upd_ne _ _ _ e] at hy; exact .inr ⟨e, hy⟩
 have live : ∀ o y, upd H i (some x) o = some y → ∃ z, H o = some z ∧ ∀ k, ft y (X.ρ o) k → ft z (X.ρ o) k := by
  intro o y hy
  rcases inH o y hy with ⟨rfl, rfl⟩ | ⟨_, h⟩
  ·exact ⟨x0, hi, fun k hk => ft_hb (hx k hk)⟩
  ·exact ⟨y, h, fun _ h => h⟩
 refine ⟨⟨ho.trans r.os, ht.trans r.tape, hp.trans r.output, by simp only [hs]; exact r.size, ?_, r.pin, ?_, ?_, ?_, ?_, ?_, r.phi, r.glob.mono hl.Φ hl.w⟩, hl⟩
 ·intro k hk hn
  have : k ≠ b := by
   rintro rfl
   rcases r.own i x0 k hi (ft_hb hbi) with h | h
   ·omega
   ·exact hn h
  exact (hbl k this).trans (r.block k hk hn)
 ·intro o y hy
  rcases inH o y hy with ⟨rfl, rfl⟩ | ⟨e, hy'⟩
  ·exact ⟨(r.obj o x0 hi).1, hor⟩
  ·obtain ⟨hu, hor'⟩ := r.obj o y hy'
   refine ⟨hu, hor'.later hl fun k hk => hbl k ?_⟩
   rintro rfl
   exact e (r.inj o i y x0 k hy' hi hk (ft_hb hbi))
 ·intro o o' y y' k h1 h2 h3 h4
  obtain ⟨z, hz, e⟩ := live o y h1
  obtain ⟨z', hz', e'⟩ := live o' y' h2
  exact r.inj o o' z z' k hz hz' (e k h3) (e' k h4)
 ·intro o y k h1 h2
  obtain ⟨z, hz, e⟩ := live o y h1
  exact r.own o z k hz (e k h2)
 ·intro o y k h1 h2
  obtain ⟨z, hz, e⟩ := live o y h1
  exact r.dis o z k hz (e k h2)
 ·intro k hk
  simp only [hs]
  exact r.fro k hk
end Go.EW
namespace Go.EW
open Go
inductive Opd where
 | t (i : Nat)
 | k (v : Value)
 deriving Inhabited
def opd : Operand → Opd
 | .tmp t => .t t
 | .const v => .k v
 | .func f => .k (.func (.func f) #[] #[])
 | .global g => .k (.pointer (some ⟨g, 0, none⟩))
def EV.lit (v : Value) : EV := .v (.c (.fz (.lit v)))
def litc (v : Value) : EC := .fz (.lit v)
def cst (v : Value) : EV :=
 match v with
 | .agg cs => if cs.toList.all (·.oneCell') then .v (.agg (cs.toList.map litc)) else .any
 | .tuple _ => .any
 | .func (.func f) first cap => if first.size = 0 ∧ cap.size = 0 then .v (.c (.clo f [])) else .v (.c (.fz (.lit v)))
 | v => .v (.c (.fz (.lit v)))
def nth : List EV → Nat → EV
 | [], _ => .any
 | x :: _, 0 => x
 | _ :: r, n + 1 => nth r n
def ev (T : List EV) : Opd → EV
 | .t i => nth T i
 | .k v => cst v
theorem nth_eq (T : List EV) (i : Nat) : nth T i = (T[i]?).getD .any := by
 induction T generalizing i with
 | nil => simp [nth]
 | cons x r ih => cases i <;> simp [nth, ih]
theorem arr_eq_nil {α : Type} {a : Array α} (h : a.size = 0) : a = #[] := Array.eq_empty_of_size_eq_zero h
theorem VV_cst (X : Cx) (v : Value) : VV X (cst v) v := by
 unfold cst
 split
 ·rename_i cs
  split
  ·rename_i h
   refine ⟨cs.toList, by simp, by simp, ?_⟩
   intro i x y hx hy
   simp only [List.getElem?_map, Option.map_eq_some_iff] at hx
   obtain ⟨z, hz, rfl⟩ := hx
   have : z = y := Option.some.inj (hz.symm.trans hy)
   subst this
   exact FR.lit _ ((List.all_eq_true.1 h) z (List.mgE hz))
  ·trivial
 ·trivial
 ·split
  ·rename_i f first cap h
   obtain ⟨h1, h2⟩ := h
   rw [arr_eq_nil h1, arr_eq_nil h2]
   exact ⟨[], rfl, All2.nil⟩
  ·exact FR.lit _ rfl
 ·rename_i h1 h2 h3
  refine FR.lit _ ?_
  cases v <;> first | rfl | (exfalso; first | exact h1 _ rfl | exact h2 _ rfl)
theorem VV_ev {X : Cx} {T : List EV} {a : Act} (h : All2 (VV X) T a.tmps.toList) (x : Operand) : VV X (ev T (opd x)) (a.eval x) := by
 cases x with
 | tmp t =>
  simp only [opd, ev, nth_eq, Act.eval]
  cases ht : T[t]? with
  | none => trivial
  | some e =>
   obtain ⟨y, hy, hr⟩ := h.get ht
   have : a.tmps[t]? = some y := by simpa using hy
   simp only [Option.getD_some, Array.getD_eq_getD_getElem?, this]
   exact hr
 | const v => exact VV_cst X v
 | global g => exact VV_cst X (.pointer (some ⟨g, 0, none⟩))
 | func f => exact VV_cst X (.func (.func f) #[] #[])
def asLit : EV → Option Value
 | .v (.c (.fz (.lit v))) => some v
 | _ => none
def asC : EV → Option EC
 | .v (.c x) => some x
 | _ => none
def asAg : EV → Option (List EC)
 | .v (.agg cs) => some cs
 | _ => none
def asCells : EV → Option (List EC)
 | .v (.c x) => some [x]
 | .v (.agg cs) => some cs
 | _ => none
def asT : EV → Option TV
 | .v t => some t
 | _ => none
theorem asLit_some {e : EV} {v : Value} (h : asLit e = some v) : e = .v (.c (.fz (.lit v))) := by
 unfold asLit at h; split at h <;> simp_all
theorem asC_some {e : EV} {x : EC} (h : asC e = some x) : e = .v (.c x) := by
 unfold asC at h; split at h <;> simp_all
theorem asAg_some {e : EV} {x : List EC} (h : asAg e = some x) : e = .v (.agg x) := by
 unfold asAg at h; split at h <;> simp_all
theorem VV_lit {X : Cx} {e : EV} {u v : Value} (h : asLit e = some u) (hv : VV X e v) : v = u := by
 rw [asLit_some h] at hv
 cases hv
 rfl
theorem VV_c {X : Cx} {e : EV} {x : EC} {v : Value} (h : asC e = some x) (hv : VV X e v) : VR X x v := by
 rw [asC_some h] at hv
 exact hv
theorem VV_ag {X : Cx} {e : EV} {cs : List EC} {v : Value} (h : asAg e = some cs) (hv : VV X e v) : ∃ vs : List Value, v = .agg vs.toArray ∧ All2 (VR X) cs vs := by
 rw [asAg_some h] at hv
 exact hv
theorem cells_one {v : Value} (h : v.oneCell' = true) : v.cells = #[v] := by
 cases v <;> first | rfl | simp [Value.oneCell'] at h
theorem VV_cells {X : Cx} {e : EV} {cs : List EC} {v : Value} (h : asCells e = some cs) (hv : VV X e v) : All2 (VR X) cs v.cells.toList := by
 unfold asCells at h
 split at h
 ·rename_i x
  obtain rfl := Option.some.inj h
  have h1 : VR X x v := hv
  rw [cells_one h1.oneCell]
  exact All2.cons h1 All2.nil
 ·obtain rfl := Option.some.inj h
  obtain ⟨vs, rfl, ha⟩ := hv
  simpa [Value.cells] using ha
 ·simp at h
def pint (op : BinOp) (k : IntKind) (a b : Int) : Option Value :=
 match op with
 | .add => some (.int k (k.wrap (a + b)))
 | .sub => some (.int k (k.wrap (a - b)))
 | .mul => some (.int k (k.wrap (a * b)))
 | .quo => if b = 0 then none else some (.int k (k.wrap (a.tdiv b)))
 | .rem => if b = 0 then none else some (.int k (a.tmod b))
 | .and => some (.int k (k.wrap (BitVec.ofInt k.bits a &&& BitVec.ofInt k.bits b).toNat))
 | .or => some (.int k (k.wrap (BitVec.ofInt k.bits a ||| BitVec.ofInt k.bits b).toNat))
 | .xor => some (.int k (k.wrap (BitVec.ofInt k.bits a ^^^ BitVec.ofInt k.bits b).toNat))
 | .andNot => some (.int k (k.wrap (BitVec.ofInt k.bits a &&& ~~~BitVec.ofInt k.bits b).toNat))
 | .eql => some (.bool (decide (a = b)))
 | .neq => some (.bool (decide (a ≠ b)))
 | .lss => some (.bool (decide (a < b)))
 | .leq => some (.bool (decide (a ≤ b)))
 | .gtr => some (.bool (decide (b < a)))
 | .geq => some (.bool (decide (b ≤ a)))
 | _ => none
def psh (op : BinOp) (k : IntKind) (a b : Int) : Option Value :=
 if b < 0 then none else
 match op with
 | .shl => some (.int k (k.wrap (a * 2 ^ min b.toNat k.bits)))
 | .shr => some (.int k (a.fdiv (2 ^ min b.toNat k.bits)))
 | _ => none
def pstr (op : BinOp) (x y : ByteArray) : Option Value :=
 match op with
 | .eql => some (.bool (decide (x.toList = y.toList)))
 | .neq => some (.bool (decide (x.toList ≠ y.toList)))
 | .lss => some (.bool (Op.bytesLess x.toList y.toList))
 | _ => none
def pbin (op : BinOp) (u v : Value) : Option Value :=
 match u, v with
 | .int k a, .int k' b =>
  match op with
  | .shl | .shr => psh op k a b
  | _ => if k = k' then pint op k a b else none
 | .string x, .string y => pstr op x y
 | _, _ => none
def pun (op : UnOp) (u : Value) : Option Value :=
 match op, u with
 | .neg, .int k n => some (.int k (k.wrap (0 - n)))
 | .xor, .int k n => some (.int k (k.wrap (BitVec.ofInt k.bits (if k.signed then -1 else k.max) ^^^ BitVec.ofInt k.bits n).toNat))
 | .not, .bool b => some (.bool !b)
 | _, _ => none
theorem pbin_run {P : Program} {w : World} {op : BinOp} {t : TypeId} {u v r : Value} (h : pbin op u v = some r) : (binOp op t u v).run P w = .ok r w := by
  unfold pbin at h
  split at h
  · rename_i k a k' b
    cases op <;> simp only at h <;> first
      | (unfold psh at h
         split at h
         · simp at h
         · rename_i hb
           first
             | (obtain rfl := Option.some.inj h; simp [binOp, Op.shift, hb])
             | simp at h)
      | (split at h
         · rename_i hk
           subst hk
           simp only [pint] at h
           first
             | (obtain rfl := Option.some.inj h
                simp [binOp, Op.intArith, Op.intBits, Op.intCmp]
                try (first | done | rfl | (by_cases e : a = b <;> simp [e])))
             | (split at h
                · simp at h
                · rename_i hb
                  obtain rfl := Option.some.inj h
                  simp [binOp, Op.intDiv, hb])
             | simp at h
         · simp at h)
  · rename_i x y
    cases op <;> simp only [pstr] at h <;> first
      | (obtain rfl := Option.some.inj h
         simp [binOp, Op.stringOp]
         try (first | done | rfl | (by_cases e : x.toList = y.toList <;> simp [e])))
      | simp at h
  · simp at h
theorem pun_run {P : Program} {w : World} {op : UnOp} {u r : Value} (h : pun op u = some r) : (Op.unary op u).run P w = .ok r w := by
 unfold pun at h
 split at h <;> first
  | (obtain rfl := Option.some.inj h; simp [Op.unary, Op.intArith, Op.intBits])
  | simp at h
end Go.EW
namespace Go.EW
open Go
inductive QOp where
 | mov (x : Opd)
 | pick (c a b : Opd)
 | bin (op : BinOp) (x y : Opd)
 | un (op : UnOp) (x : Opd)
 | cnv (k : IntKind) (x : Opd)
 | eqb (neg : Bool) (x y : Opd)
 | eqp (neg : Bool) (x : Opd)
 | eqi (neg : Bool) (x : Opd)
 | eqa (neg : Bool) (len : Nat) (k : IntKind) (x y : Opd)
 | eqz (neg : Bool) (len : Nat) (x y : Opd)
 | eqs (neg : Bool) (k1 : IntKind) (len : Nat) (k2 : IntKind) (x y : Opd)
 | eqw (neg : Bool) (rs : List (Nat × IntKind)) (x y : Opd)
 | mget (rs : List (Nat × IntKind)) (zq : IntKind) (x k : Opd)
 | alloc (ty : TypeId) (z : List Value)
 | box (ty : TypeId) (x : Opd)
 | build (z : List Value) (parts : List (Nat × Nat × Opd))
 | bsl (es : Nat) (z : List Value) (len : Nat) (parts : List (Nat × Opd))
 | bsr (ty : TypeId) (es : Nat) (z : List Value) (len : Nat) (parts : List (Nat × Opd))
 | ldc (x : Opd)
 | lda (n : Nat) (x : Opd)
 | nilc (x : Opd)
 | s2a (n es : Nat) (x : Opd)
 | fad (off : Nat) (x : Opd)
 | fgc (off : Nat) (x : Opd)
 | fga (off n : Nat) (x : Opd)
 | iad (len es : Nat) (x i : Opd)
 | isl (es : Nat) (x i : Opd)
 | ssl (es : Nat) (x : Opd) (lo hi : Option Opd)
 | sl3 (es : Nat) (x hi mx : Opd)
 | sar (len : Nat) (x : Opd) (lo hi : Option Opd)
 | ext (i : Nat) (x : Opd)
 | mkf (f : FuncId) (caps : List Opd)
 | mki (t : TypeId) (x : Opd)
 | len (x : Opd)
 | lens (x : Opd)
 | sst (x : Opd) (lo hi : Option Opd)
 | mks (ty : TypeId) (es bytes : Nat) (z : List Value) (l c : Opd)
 | b2s (x : Opd)
 | s2b (x : Opd)
 | ixs (x i : Opd)
 | minmax (mx : Bool) (xs : List Opd)
 deriving Inhabited
structure St where
 T : List EV
 H : Nat → Option EO
 n : Nat
def gptr : FV → Option (List EC)
 | .lit (.pointer (some ⟨g, k, none⟩)) => (gcells g).map fun cs => (cs.map EC.fz).drop k
 | _ => none
def cellsAt (H : Nat → Option EO) : EC → Option (List EC)
 | .ptr o k => match H o with
  | some (.box _ cs) => some (cs.drop k)
  | _ => none
 | .eptr o es i k => match H o with
  | some (.row _ es' xs) => if es' = es then (xs[i]?).map fun x => (x.map EC.fz).drop k else none
  | _ => none
 | .fptr cs k => some ((cs.map EC.fz).drop k)
 | .fz x => gptr x
 | _ => none
def cellsRun (H : Nat → Option EO) : EC → Option (List EC)
 | .eptr o es i k => match H o with
  | some (.row _ es' xs) => if es' = es then some ((xs.flatten.drop (i * es + k)).map EC.fz) else none
  | _ => none
 | _ => none
def cellsAtN (H : Nat → Option EO) (n : Nat) (p : EC) : Option (List EC) := (cellsAt H p).bind fun cs => if n ≤ cs.length then some cs else cellsRun H p
def elemsF (es : Nat) : FV → Option (List (List FV))
 | .sl es' xs => if es' = es then some xs else none
 | .lit (.slice none 0 0) => some []
 | _ => none
def elemsOf (H : Nat → Option EO) (es : Nat) : EC → Option (List (List FV))
 | .fz x => elemsF es x
 | .row o len => match H o with
  | some (.row _ es' xs) => if es' = es then some (xs.take len) else none
  | _ => none
 | _ => none
def frz : EC → Option FV
 | .fz x => some x
 | _ => none
def frzAll : List EC → Option (List FV)
 | [] => some []
 | x :: r => (frz x).bind fun a => (frzAll r).map (a :: ·)
def elems2 (H : Nat → Option EO) (es : Nat) : EC → Option (List (List FV))
 | .bsl o k len => match H o with
  | some (.box _ cs) => if es = 1 ∧ k + len ≤ cs.length then (frzAll ((cs.drop k).take len)).map fun fs => fs.map fun x => [x] else none
  | _ => none
 | c => elemsOf H es c
def isNum (v : Value) : Option Int :=
 match v with
 | .int _ n => some n
 | _ => none
def lenOf : EC → Option Nat
 | .fz (.sl _ xs) => some xs.length
 | .fz (.lit (.slice none 0 0)) => some 0
 | .row _ len => some len
 | .bsl _ _ len => some len
 | .rsl _ _ len => some len
 | _ => none
def putAt (cs : List EC) (off n : Nat) (x : List EC) : Option (List EC) :=
 if x.length = n ∧ off + n ≤ cs.length then some (cs.take off ++ x ++ cs.drop (off + n)) else none
def putParts (T : List EV) : List EC → List (Nat × Nat × Opd) → Option (List EC)
 | cs, [] => some cs
 | cs, (off, n, x) :: r => (asCells (ev T x)).bind fun c => (putAt cs off n c).bind fun cs' => putParts T cs' r
def setParts (T : List EV) (es : Nat) : List (List FV) → List (Nat × Opd) → Option (List (List FV))
 | xs, [] => some xs
 | xs, (i, x) :: r => (asCells (ev T x)).bind fun c => (frzAll c).bind fun c' => if c'.length = es ∧ i < xs.length then setParts T es (xs.set i c') r else none
def bnd (T : List EV) (d : Nat) : Option Opd → Option Nat
 | none => some d
 | some x => (asLit (ev T x)).bind fun v => (isNum v).bind fun n => if 0 ≤ n then some n.toNat else none
def bytesOf : List (List FV) → Option (List Int)
 | [] => some []
 | [.lit (.int .u8 n)] :: r => (bytesOf r).map (n :: ·)
 | _ => none
def strOf (ns : List Int) : ByteArray := ⟨(ns.map fun n => UInt8.ofNat n.toNat).toArray⟩
def strB (s : ByteArray) : List (List FV) := s.data.toList.map fun b => [.lit (.int .u8 b.toNat)]
def intsOf (k : IntKind) : List EC → Option (List Int)
 | [] => some []
 | .fz (.lit (.int k' n)) :: r => if k' = k then (intsOf k r).map (n :: ·) else none
 | _ => none
def boolsOf : List EC → Option (List Bool)
 | [] => some []
 | .fz (.lit (.bool b)) :: r => (boolsOf r).map (b :: ·)
 | _ => none
def intS2 (k1 k2 : IntKind) : List EC → Option (Int × List Int)
 | .fz (.lit (.int k n)) :: r => if k = k1 then (intsOf k2 r).map (n, ·) else none
 | _ => none
def litK : List IntKind → List EC → Option (List Int)
 | [], [] => some []
 | k :: ks, .fz (.lit (.int k' n)) :: r => if k' = k ∧ (Lit.int k n).wf = true then (litK ks r).map (n :: ·) else none
 | _, _ => none
def mpOf (H : Nat → Option EO) : EC → Option (Nat × List (Nat × IntKind) × List (List Int × Value))
 | .mp o => match H o with
  | some (.mp rs es) => some (o, rs, es)
  | _ => none
 | _ => none
def getM (z : Value) (k : List Int) : List (List Int × Value) → Value
 | [] => z
 | p :: r => if p.1 = k then p.2 else getM z k r
def idxM (k : List Int) : List (List Int × Value) → Nat
 | [] => 0
 | p :: r => if p.1 = k then 0 else idxM k r + 1
def entM (z : Value) (k : List Int) : List (List Int × Value) → List (List Int × Value)
 | [] => [(k, z)]
 | p :: r => if p.1 = k then p :: r else p :: entM z k r
def putM (s : Nat) (u : Value) (l : List (List Int × Value)) : List (List Int × Value) := l.modify s fun p => (p.1, u)
def lits (T : List EV) : List Opd → Option (List Value)
 | [] => some []
 | x :: r => (asLit (ev T x)).bind fun v => (lits T r).map (v :: ·)
def capsOf (T : List EV) : List Opd → Option (List (Nat × Nat))
 | [] => some []
 | x :: r => match asC (ev T x) with
  | some (.ptr o k) => (capsOf T r).map ((o, k) :: ·)
  | _ => none
def eqiv : Value → Option Bool
 | .nilIface => some true
 | .iface _ _ => some false
 | _ => none
def eqpv : EC → Option Bool
 | .fz (.lit (.pointer none)) => some true
 | .ptr _ _ => some false
 | .eptr _ _ _ _ => some false
 | .fptr _ _ => some false
 | .fz (.lit (.pointer (some _))) => some false
 | _ => none
def notNil : EC → Bool
 | .ptr _ _ | .eptr _ _ _ _ | .fptr _ _ | .clo _ _ => true
 | .fz (.lit (.pointer (some _))) => true
 | _ => false
def evQ (q : QOp) (T : List EV) (H : Nat → Option EO) (id : Nat) : Option (EV × Option EO) :=
 match q with
 | .mov x => some (ev T x, none)
 | .pick c a b => match asLit (ev T c) with
  | some (.bool c) => some (if c then ev T a else ev T b, none)
  | _ => none
 | .bin op x y => (asLit (ev T x)).bind fun u => (asLit (ev T y)).bind fun v => (pbin op u v).map fun r => (.lit r, none)
 | .un op x => (asLit (ev T x)).bind fun u => (pun op u).map fun r => (.lit r, none)
 | .cnv k x => (asLit (ev T x)).bind fun u => (isNum u).map fun n => (.lit (.int k (k.wrap n)), none)
 | .eqb neg x y => match asLit (ev T x), asLit (ev T y) with
  | some (.bool a), some (.bool b) => some (.lit (.bool (if neg then !(a == b) else a == b)), none)
  | _, _ => none
 | .eqp neg x => (asC (ev T x)).bind fun c => (eqpv c).map fun b => (.lit (.bool (if neg then !b else b)), none)
 | .eqi neg x => (asLit (ev T x)).bind fun v => (eqiv v).map fun b => (.lit (.bool (if neg then !b else b)), none)
 | .eqa neg len k x y => (asAg (ev T x)).bind fun cs => (intsOf k cs).bind fun xs => (asAg (ev T y)).bind fun ds => (intsOf k ds).bind fun ys =>
  if xs.length = len ∧ ys.length = len then some (.lit (.bool (if neg then !decide (xs = ys) else decide (xs = ys))), none) else none
 | .eqz neg len x y => (asAg (ev T x)).bind fun cs => (boolsOf cs).bind fun xs => (asAg (ev T y)).bind fun ds => (boolsOf ds).bind fun ys =>
  if xs.length = len ∧ ys.length = len then some (.lit (.bool (if neg then !decide (xs = ys) else decide (xs = ys))), none) else none
 | .eqw neg rs x y => (asAg (ev T x)).bind fun cs => (litK (unrle rs) cs).bind fun p => (asAg (ev T y)).bind fun ds => (litK (unrle rs) ds).bind fun q => some (.lit (.bool (if neg then !decide (p = q) else decide (p = q))), none)
 | .mget rs zq x k => (asC (ev T x)).bind fun c => (mpOf H c).bind fun r => (asAg (ev T k)).bind fun cs => (litK (unrle rs) cs).bind fun ns => if r.2.1 = rs then some (.lit (getM (.int zq 0) ns r.2.2), none) else none
 | .eqs neg k1 len k2 x y => (asAg (ev T x)).bind fun cs => (intS2 k1 k2 cs).bind fun p => (asAg (ev T y)).bind fun ds => (intS2 k1 k2 ds).bind fun q =>
  if p.2.length = len ∧ q.2.length = len then some (.lit (.bool (if neg then !decide (p.1 = q.1 ∧ p.2 = q.2) else decide (p.1 = q.1 ∧ p.2 = q.2))), none) else none
 | .alloc ty z => some (.v (.c (.ptr id 0)), some (.box ty (z.map litc)))
 | .box ty x => (asCells (ev T x)).map fun cs => (.v (.c (.ptr id 0)), some (.box ty cs))
 | .build z parts => (putParts T (z.map litc) parts).map fun cs => (.v (.agg cs), none)
 | .bsl es z len parts => (setParts T es (List.replicate len (z.map FV.lit)) parts).map fun xs => (.v (.c (.fz (.sl es xs))), none)
 | .bsr ty es z len parts => (setParts T es (List.replicate len (z.map FV.lit)) parts).map fun xs => (.v (.c (.row id xs.length)), some (.row ty es xs))
 | .ldc x => (asC (ev T x)).bind fun p => (cellsAt H p).bind fun cs => (cs[0]?).map fun c => (.v (.c c), none)
 | .lda n x => (asC (ev T x)).bind fun p => (cellsAtN H n p).bind fun cs => if n ≤ cs.length then some (.v (.agg (cs.take n)), none) else none
 | .nilc x => (asC (ev T x)).bind fun p => if notNil p then some (.v (.c p), none) else none
 | .s2a n es x => match asC (ev T x) with
  | some (.row o len) => match H o with
   | some (.row _ es' _) => if es' = es ∧ 0 < n ∧ n ≤ len then some (.v (.c (.eptr o es 0 0)), none) else none
   | _ => none
  | _ => none
 | .fad off x => match asC (ev T x) with
  | some (.ptr o k) => some (.v (.c (.ptr o (k + off))), none)
  | some (.eptr o es i k) => some (.v (.c (.eptr o es i (k + off))), none)
  | some (.fptr cs k) => some (.v (.c (.fptr cs (k + off))), none)
  | some (.fz (.lit (.pointer (some ⟨g, k, none⟩)))) => some (.v (.c (.fz (.lit (.pointer (some ⟨g, k + off, none⟩))))), none)
  | _ => none
 | .fgc off x => (asAg (ev T x)).bind fun cs => (cs[off]?).map fun c => (.v (.c c), none)
 | .fga off n x => (asAg (ev T x)).bind fun cs => if off + n ≤ cs.length then some (.v (.agg ((cs.drop off).take n)), none) else none
 | .iad len es x i => (asLit (ev T i)).bind fun iv => (isNum iv).bind fun i =>
  if 0 ≤ i ∧ i < (len : Int) then match asC (ev T x) with
   | some (.ptr o k) => some (.v (.c (.ptr o (k + i.toNat * es))), none)
   | some (.eptr o es' j k) => some (.v (.c (.eptr o es' j (k + i.toNat * es))), none)
   | some (.fptr cs k) => some (.v (.c (.fptr cs (k + i.toNat * es))), none)
   | some (.fz (.lit (.pointer (some ⟨g, k, none⟩)))) => some (.v (.c (.fz (.lit (.pointer (some ⟨g, k + i.toNat * es, none⟩))))), none)
   | _ => none
  else none
 | .isl es x i => (asLit (ev T i)).bind fun iv => (isNum iv).bind fun i =>
  if 0 ≤ i then match asC (ev T x) with
   | some (.fz (.sl es' xs)) => if es' = es then (xs[i.toNat]?).map fun y => (.v (.c (.fptr y 0)), none) else none
   | some (.row o len) => match H o with
    | some (.row _ es' _) => if es' = es ∧ i < (len : Int) then some (.v (.c (.eptr o es i.toNat 0)), none) else none
    | _ => none
   | some (.bsl o k len) => if es = 1 ∧ i < (len : Int) then some (.v (.c (.ptr o (k + i.toNat))), none) else none
   | _ => none
  else none
 | .ssl es x lo hi => (asC (ev T x)).bind fun c => (lenOf c).bind fun len => (bnd T 0 lo).bind fun l => (bnd T len hi).bind fun h =>
  if l ≤ h ∧ h ≤ len then match c with
   | .fz (.sl es' xs) => if es' = es then some (.v (.c (.fz (.sl es ((xs.take h).drop l)))), none) else none
   | .fz (.lit (.slice none 0 0)) => some (.v (.c c), none)
   | .row o _ => if l = 0 then some (.v (.c (.row o h)), none) else if es = 1 ∧ l < len then some (.v (.c (.rsl o l (h - l))), none) else none
   | .bsl o k _ => if es = 1 ∧ (l < len ∨ l = 0) then some (.v (.c (.bsl o (k + l) (h - l))), none) else none
   | _ => none
  else none
 | .sl3 es x hi mx => (asC (ev T x)).bind fun c => (bnd T 0 (some hi)).bind fun h => (bnd T 0 (some mx)).bind fun m => match c with
  | .fz (.sl es' xs) => if es' = es ∧ h = xs.length ∧ m = xs.length then some (.v (.c (.fz (.slc es xs))), none) else none
  | _ => none
 | .sar len x lo hi => match asC (ev T x) with
  | some (.ptr o k) => (bnd T 0 lo).bind fun l => (bnd T len hi).bind fun h => if l ≤ h ∧ h ≤ len ∧ l < len then some (.v (.c (.bsl o (k + l) (h - l))), none) else none
  | _ => none
 | .ext i x => match ev T x with
  | .tup ts => (ts[i]?).map fun t => (.v t, none)
  | _ => none
 | .mkf f caps => (capsOf T caps).map fun cs => (.v (.c (.clo f cs)), none)
 | .mki t x => (asLit (ev T x)).map fun v => (.lit (.iface t v), none)
 | .len x => (asC (ev T x)).bind fun c => (lenOf c).map fun (n : Nat) => (EV.lit (.int .i64 (n : Int)), none)
 | .lens x => match asLit (ev T x) with
  | some (.string s) => some (.lit (.int .i64 (s.size : Int)), none)
  | _ => none
 | .sst x lo hi => match asLit (ev T x) with
  | some (.string s) => (bnd T 0 lo).bind fun l => (bnd T s.size hi).bind fun h => if l ≤ h ∧ h ≤ s.size then some (.lit (.string (s.extract l h)), none) else none
  | _ => none
 | .mks ty es bytes z l c => (asLit (ev T l)).bind fun lv => (isNum lv).bind fun l => (asLit (ev T c)).bind fun cv => (isNum cv).bind fun c =>
  if 0 ≤ l ∧ l ≤ c ∧ c * bytes ≤ 140737488355328 ∧ c ≤ 9223372036854775807 ∧ 0 < es then some (.v (.c (.row id l.toNat)), some (.row ty es (List.replicate l.toNat (z.map FV.lit)))) else none
 | .b2s x => (asC (ev T x)).bind fun c => (elems2 H 1 c).bind fun xs => (bytesOf xs).map fun bs => (.lit (.string (strOf bs)), none)
 | .s2b x => match asLit (ev T x) with
  | some (.string s) => some (.v (.c (.fz (.sl 1 (strB s)))), none)
  | _ => none
 | .ixs x i => match asLit (ev T x), asLit (ev T i) with
  | some (.string s), some (.int _ i) => if 0 ≤ i then (s.data.toList[i.toNat]?).map fun b => (.lit (.int .u8 b.toNat), none) else none
  | _, _ => none
 | .minmax mx xs => match lits T xs with
  | some [.int k a, .int k' b] => if k = k' then some (.lit (.int k (if mx then (if b > a then b else a) else (if b < a then b else a))), none) else none
  | some [.int k a, .int k' b, .int k'' c] => if k = k' ∧ k = k'' ∧ mx = false then some (.lit (.int k (if c < (if b < a then b else a) then c else (if b < a then b else a))), none) else none
  | _ => none
def fieldOf (P : Program) (s : TypeId) (f : Nat) : Option Field :=
 match P.underlying s with
 | some (.struct fs) => fs[f]?
 | _ => none
def sz (P : Program) (t : TypeId) : Option Nat := (P.info? t).map (·.size)
def agg? (P : Program) (t : TypeId) : Option Bool :=
 match P.underlying t with
 | some (.struct _) => some true
 | some (.array _ _) => some true
 | some _ => some false
 | none => none
def zer (P : Program) (t : TypeId) : Option (List Value) :=
 match (P.info? t).bind (·.zero) with
 | some z => if z.cells.toList.all (·.oneCell') then some z.cells.toList else none
 | none => none
def structPlaces (P : Program) : List Field → Option (List (Nat × Nat))
 | [] => some []
 | f :: r => (sz P f.type).bind fun n => (structPlaces P r).map ((f.offset, n) :: ·)
def placeAll (place : Nat → Option (Nat × Nat)) : List (Nat × Operand) → Option (List (Nat × Nat × Opd))
 | [] => some []
 | (i, x) :: r => (place i).bind fun (off, n) => (placeAll place r).map ((off, n, opd x) :: ·)
def eqop (P : Program) (op : BinOp) (neg : Bool) (t : TypeId) (x y : Operand) : Option QOp :=
 match P.underlying t with
 | some (.int _) | some .string => some (.bin op (opd x) (opd y))
 | some .bool => some (.eqb neg (opd x) (opd y))
 | some (.pointer e) => match y with
  | .const (.pointer none) => if P.pointee t = e then some (.eqp neg (opd x)) else none
  | _ => none
 | some (.interface _) => match y with
  | .const .nilIface => some (.eqi neg (opd x))
  | _ => none
 | some (.array len e) => match P.underlying e with
  | some (.int k) => if sz P e = some 1 ∧ P.eqGuardType P.depth t = false then some (.eqa neg len k (opd x) (opd y)) else none
  | some .bool => if sz P e = some 1 ∧ P.eqGuardType P.depth t = false then some (.eqz neg len (opd x) (opd y)) else none
  | _ => none
 | some (.struct fs) => match fs.toList with
  | [f, g] => match P.underlying f.type, P.underlying g.type with
   | some (.int k1), some (.array len e) => match P.underlying e with
    | some (.int k2) => if f.offset = 0 ∧ g.offset = 1 ∧ f.name ≠ "_" ∧ g.name ≠ "_" ∧ sz P g.type = some len ∧ sz P e = some 1 ∧ P.eqGuardType P.depth t = false ∧ P.stoodInHeld t = false then some (.eqs neg k1 len k2 (opd x) (opd y)) else none
    | _ => none
   | _, _ => none
  | _ => none
 | _ => none
def flatFs (P : Program) (f : TypeId → Option (List IntKind)) : Nat → List Field → Option (List IntKind)
 | _, [] => some []
 | off, g :: r => if g.offset = off ∧ g.name ≠ "_" then (f g.type).bind fun l => (flatFs P f (off + P.cellsOf g.type) r).map (l ++ ·) else none
def flatK (P : Program) : Nat → TypeId → Option (List IntKind)
 | 0, _ => none
 | d + 1, t => (match P.underlying t with
  | some (.int q) => some [q]
  | some (.array n e) => (flatK P d e).bind fun l => some (List.replicate n l).flatten
  | some (.struct fs) => flatFs P (flatK P d) 0 fs.toList
  | _ => none).bind fun l => if l.length = P.cellsOf t then some l else none
def isStructT (P : Program) (t : TypeId) : Bool := match P.underlying t with
 | some (.struct _) => true
 | _ => false
def wideKey (P : Program) (kt : TypeId) : Bool :=
 P.keyType kt && P.keyTypeAt 4 kt && P.tiled 4 kt && isStructT P kt && decide (4 ≤ P.types.size + 1)
def keyRs (P : Program) (kt : TypeId) : Option (List (Nat × IntKind)) :=
 if wideKey P kt = true then (flatK P 4 kt).bind fun ks => if unrle (rle ks) = ks then some (rle ks) else none else none
def zeroInt (P : Program) (et : TypeId) : Option IntKind := match (P.info? et).bind (·.zero) with
 | some (.int q 0) => some q
 | _ => none
def eqopW (P : Program) (op : BinOp) (neg : Bool) (t : TypeId) (x y : Operand) : Option QOp :=
 match eqop P op neg t x y with
 | some q => some q
 | none => if isStructT P t = true then (flatK P 4 t).bind fun ks => if P.eqGuardType P.depth t = false ∧ P.keyTypeAt 4 t = true ∧ unrle (rle ks) = ks then some (.eqw neg (rle ks) (opd x) (opd y)) else none else none
def cop (P : Program) (o : Oper) : Option QOp :=
 match o.op with
 | .move x | .assign x => some (.mov (opd x))
 | .pick c a b => some (.pick (opd c) (opd a) (opd b))
 | .unOp op _ x => some (.un op (opd x))
 | .binOp op t x y _ =>
  match op with
  | .eql => eqopW P .eql false t x y
  | .neq => eqopW P .neq true t x y
  | _ => some (.bin op (opd x) (opd y))
 | .convert src dst x =>
  match P.underlying src, P.underlying dst with
  | some (.int _), some (.int k) => some (.cnv k (opd x))
  | some (.slice e), some .string => match P.underlying e with
   | some (.int .u8) => some (.b2s (opd x))
   | _ => none
  | some .string, some (.slice e) => match P.underlying e with
   | some (.int .u8) => some (.s2b (opd x))
   | _ => none
  | _, _ => none
 | .alloc t => (zer P t).map fun z => .alloc t z
 | .box t x => some (.box t (opd x))
 | .build t parts => (zer P t).bind fun z => match P.underlying t with
  | some (.struct fs) => (structPlaces P fs.toList).bind fun pl => (placeAll (fun i => pl[i]?) parts.toList).map fun ps => .build z ps
  | some (.array _ e) => (sz P e).bind fun n => (placeAll (fun i => some (i * n, n)) parts.toList).map fun ps => .build z ps
  | _ => none
 | .buildSlice t len parts => match P.underlying t with
  | some (.slice e) => (sz P e).bind fun es => (zer P e).bind fun z => if len * es ≤ 16777216 ∧ 0 < es ∧ z.length = es then some (.bsl es z len (parts.toList.map fun (i, x) => (i, opd x))) else none
  | _ => none
 | .load t x => (agg? P t).bind fun a => if a then (sz P t).map fun n => .lda n (opd x) else some (.ldc (opd x))
 | .nilCheck x => some (.nilc (opd x))
 | .sliceToArrayPointer t x => match P.underlying t with
  | some (.array n e) => (sz P e).map fun es => .s2a n es (opd x)
  | _ => none
 | .fieldAddr s x f => (fieldOf P s f).bind fun fl => (sz P fl.type).bind fun n => if n = 0 then none else some (.fad fl.offset (opd x))
 | .field s x f => (fieldOf P s f).bind fun fl => (agg? P fl.type).bind fun a => if a then (sz P fl.type).map fun n => .fga fl.offset n (opd x) else some (.fgc fl.offset (opd x))
 | .indexAddr t x i => match P.underlying t with
  | some (.array len e) => (sz P e).map fun es => .iad len es (opd x) (opd i)
  | some (.slice e) => (sz P e).bind fun es => if 0 < es then some (.isl es (opd x) (opd i)) else none
  | _ => none
 | .lookup t x k false => match P.underlying t with
  | some (.map kt et) => (keyRs P kt).bind fun rs => (zeroInt P et).map fun q => .mget rs q (opd x) (opd k)
  | _ => none
 | .index t x i => match P.underlying t with
  | some .string => some (.ixs (opd x) (opd i))
  | _ => none
 | .slice t x lo hi none => match P.underlying t with
  | some (.array len e) => (sz P e).bind fun es => if es = 1 then some (.sar len (opd x) (lo.map opd) (hi.map opd)) else none
  | some (.slice e) => (sz P e).bind fun es => if 0 < es then some (.ssl es (opd x) (lo.map opd) (hi.map opd)) else none
  | some .string => some (.sst (opd x) (lo.map opd) (hi.map opd))
  | _ => none
 | .slice t x none (some hi) (some mx) => match P.underlying t with
  | some (.slice e) => (sz P e).map fun es => .sl3 es (opd x) (opd hi) (opd mx)
  | _ => none
 | .extract x i => some (.ext i (opd x))
 | .makeFunc (.func f) first caps => if first.size = 0 then some (.mkf f (caps.toList.map opd)) else none
 | .makeInterface t x => match P.underlying t with
  | some (.interface _) => none
  | some _ => some (.mki t (opd x))
  | none => none
 | .makeSlice t l c => match P.underlying t with
  | some (.slice e) => (P.info? e).bind fun i => (zer P e).bind fun z => if 0 < i.size ∧ z.length = i.size then some (.mks e i.size i.bytes z (opd l) (opd c)) else none
  | _ => none
 | .call { callee := .builtin .len, args := args, argTypes := ts } => match args.toList, ts.toList with
  | [x], [t] => match P.underlying t with
   | some (.slice _) => some (.len (opd x))
   | some .string => some (.lens (opd x))
   | _ => none
  | _, _ => none
 | .call { callee := .builtin .min, args := args, argTypes := _ } => if args.size = 2 ∨ args.size = 3 then some (.minmax false (args.toList.map opd)) else none
 | .call { callee := .builtin .max, args := args, argTypes := _ } => if args.size = 2 then some (.minmax true (args.toList.map opd)) else none
 | _ => none
def copR (P : Program) (o : Oper) : Option QOp :=
 match o.op with
 | .buildSlice t len parts => match P.underlying t with
  | some (.slice e) => (sz P e).bind fun es => (zer P e).bind fun z => if len * es ≤ 16777216 ∧ 0 < es ∧ z.length = es then some (.bsr e es z len (parts.toList.map fun (i, x) => (i, opd x))) else none
  | _ => none
 | _ => none
end Go.EW
namespace Go.EW
open Go
def addO (H : Nat → Option EO) (id : Nat) : Option EO → Nat → Option EO
 | none => H
 | some x => upd H id (some x)
section
variable {P : Program} {o : Oper} {w0 : World} {m : Nat} {ρ0 : Base} {Φ0 : Nat → Prop} {H : Nat → Option EO} {X : Cx} {T : List EV} {a : Act} {id : Nat}
def Good (P : Program) (o : Oper) (a : Act) (w0 : World) (m : Nat) (ρ0 : Base) (Φ0 : Nat → Prop) (H : Nat → Option EO) (X : Cx) (id : Nat) (v : EV) (ob : Option EO) : Prop :=
 ∃ val X', (execOp a.eval o).run P X.w = .ok (.value val) X'.w ∧ Rel w0 m ρ0 Φ0 (addO H id ob) X' ∧ Later X X' ∧ (∀ i, X'.U i ↔ X.U i ∨ (i = id ∧ ob.isSome = true)) ∧ VV X' v val
theorem Good.pure {v : EV} {val : Value} (r : Rel w0 m ρ0 Φ0 H X) (h : (execOp a.eval o).run P X.w = .ok (.value val) X.w) (hv : VV X v val) : Good P o a w0 m ρ0 Φ0 H X id v none :=
 ⟨val, X, h, r, Later.refl X, by simp, hv⟩
theorem bind_some' {α β : Type} {x : Option α} {f : α → Option β} {b : β} (h : x.bind f = some b) : ∃ a, x = some a ∧ f a = some b := Option.bind_eq_some_iff.1 h
theorem map_some' {α β : Type} {x : Option α} {f : α → β} {b : β} (h : x.map f = some b) : ∃ a, x = some a ∧ f a = b := Option.map_eq_some_iff.1 h
theorem VV_mklit {v : Value} (h : v.oneCell' = true) : VV X (.lit v) v := FR.lit v h
theorem g_mov {x : Operand} (ho : o.op = .move x ∨ o.op = .assign x) (r : Rel w0 m ρ0 Φ0 H X) (ha : All2 (VV X) T a.tmps.toList) {v : EV} {ob : Option EO} (h : evQ (.mov (opd x)) T H id = some (v, ob)) : Good P o a w0 m ρ0 Φ0 H X id v ob := by
 simp only [evQ, Option.some.injEq, Prod.mk.injEq] at h
 obtain ⟨rfl, rfl⟩ := h
 exact .pure r (by rcases ho with ho | ho <;> simp [execOp, ho]) (VV_ev ha x)
theorem g_pick {c x y : Operand} (ho : o.op = .pick c x y) (r : Rel w0 m ρ0 Φ0 H X) (ha : All2 (VV X) T a.tmps.toList) {v : EV} {ob : Option EO} (h : evQ (.pick (opd c) (opd x) (opd y)) T H id = some (v, ob)) : Good P o a w0 m ρ0 Φ0 H X id v ob := by
 simp only [evQ] at h
 split at h
 ·rename_i b hb
  simp only [Option.some.injEq, Prod.mk.injEq] at h
  obtain ⟨rfl, rfl⟩ := h
  have hc := VV_lit hb (VV_ev ha c)
  refine .pure r (val := if b then a.eval x else a.eval y) ?_ ?_
  ·simp [execOp, ho, hc, asBool]
  ·cases b
   ·exact VV_ev ha y
   ·exact VV_ev ha x
 ·simp at h
theorem pbin_one {op : BinOp} {u v r : Value} (h : pbin op u v = some r) : r.oneCell' = true := by
  unfold pbin at h
  split at h
  · cases op <;> simp only [psh, pint] at h <;> first
      | (split at h
         · simp at h
         · first | (obtain rfl := Option.some.inj h; rfl) | simp at h)
      | (split at h
         · first | (obtain rfl := Option.some.inj h; rfl) | (split at h <;> first | (obtain rfl := Option.some.inj h; rfl) | simp at h) | simp at h
         · simp at h)
  · cases op <;> simp only [pstr] at h <;> first | (obtain rfl := Option.some.inj h; rfl) | simp at h
  · simp at h
theorem pun_one {op : UnOp} {u r : Value} (h : pun op u = some r) : r.oneCell' = true := by
 unfold pun at h
 split at h <;> first | (obtain rfl := Option.some.inj h; rfl) | simp at h
theorem pbin_noagg {op : BinOp} {u v r : Value} (h : pbin op u v = some r) : (∃ k a k' b, u = .int k a ∧ v = .int k' b) ∨ (∃ x y, u = .string x ∧ v = .string y) := by
 unfold pbin at h
 split at h
 ·exact .inl ⟨_, _, _, _, rfl, rfl⟩
 ·exact .inr ⟨_, _, rfl, rfl⟩
 ·simp at h
theorem eqGuard_int {w : World} (op : BinOp) (t : TypeId) (x y : Operand) {u v : Value} (h : (∃ k a k' b, u = .int k a ∧ v = .int k' b) ∨ (∃ x y, u = .string x ∧ v = .string y)) : (eqGuard op t x y u v).run P w = .ok () w := by
 rcases h with ⟨k, a, k', b, rfl, rfl⟩ | ⟨x, y, rfl, rfl⟩ <;> cases op <;> rfl
theorem g_bin {op : BinOp} {t t' : TypeId} {x y : Operand} (ho : o.op = .binOp op t x y t') (r : Rel w0 m ρ0 Φ0 H X) (ha : All2 (VV X) T a.tmps.toList) {v : EV} {ob : Option EO} (h : evQ (.bin op (opd x) (opd y)) T H id = some (v, ob)) : Good P o a w0 m ρ0 Φ0 H X id v ob := by
 simp only [evQ] at h
 obtain ⟨u1, h1, h⟩ := bind_some' h
 obtain ⟨u2, h2, h⟩ := bind_some' h
 obtain ⟨u3, h3, h⟩ := map_some' h
 simp only [Prod.mk.injEq] at h
 obtain ⟨rfl, rfl⟩ := h
 refine .pure r (val := u3) ?_ (VV_mklit (pbin_one h3))
 simp [execOp, ho, VV_lit h1 (VV_ev ha x), VV_lit h2 (VV_ev ha y), eqGuard_int (P := P) (w := X.w) op t x y (pbin_noagg h3), pbin_run h3]
theorem g_un {op : UnOp} {t : TypeId} {x : Operand} (ho : o.op = .unOp op t x) (r : Rel w0 m ρ0 Φ0 H X) (ha : All2 (VV X) T a.tmps.toList) {v : EV} {ob : Option EO} (h : evQ (.un op (opd x)) T H id = some (v, ob)) : Good P o a w0 m ρ0 Φ0 H X id v ob := by
 simp only [evQ] at h
 obtain ⟨u1, h1, h⟩ := bind_some' h
 obtain ⟨u3, h3, h⟩ := map_some' h
 simp only [Prod.mk.injEq] at h
 obtain ⟨rfl, rfl⟩ := h
 refine .pure r (val := u3) ?_ (VV_mklit (pun_one h3))
 simp [execOp, ho, VV_lit h1 (VV_ev ha x), pun_run h3]
theorem isNum_some {v : Value} {n : Int} (h : isNum v = some n) : ∃ k, v = .int k n := by
 unfold isNum at h; split at h
 ·simp only [Option.some.injEq] at h; subst h; exact ⟨_, rfl⟩
 ·simp at h
theorem g_cnv {s d : TypeId} {x : Operand} {k k' : IntKind} (ho : o.op = .convert s d x) (hs : P.underlying s = some (.int k')) (hd : P.underlying d = some (.int k)) (r : Rel w0 m ρ0 Φ0 H X) (ha : All2 (VV X) T a.tmps.toList) {v : EV} {ob : Option EO} (h : evQ (.cnv k (opd x)) T H id = some (v, ob)) : Good P o a w0 m ρ0 Φ0 H X id v ob := by
 simp only [evQ] at h
 obtain ⟨u1, h1, h⟩ := bind_some' h
 obtain ⟨n, h3, h⟩ := map_some' h
 simp only [Prod.mk.injEq] at h
 obtain ⟨rfl, rfl⟩ := h
 obtain ⟨kk, rfl⟩ := isNum_some h3
 refine .pure r (val := .int k (k.wrap n)) ?_ (VV_mklit rfl)
 simp [execOp, ho, VV_lit h1 (VV_ev ha x), convert, run_underlying hs, run_underlying hd, Conv.intToInt]
theorem run_eqGuard_bool {w : World} (op : BinOp) (t : TypeId) (x y : Operand) (u v : Bool) : (eqGuard op t x y (.bool u) (.bool v)).run P w = .ok () w := by
 cases op <;> rfl
theorem g_eqb {op : BinOp} {neg : Bool} {t t' : TypeId} {x y : Operand} (ho : o.op = .binOp op t x y t') (ht : P.underlying t = some .bool) (hop : (op = .eql ∧ neg = false) ∨ (op = .neq ∧ neg = true)) (r : Rel w0 m ρ0 Φ0 H X) (ha : All2 (VV X) T a.tmps.toList) {v : EV} {ob : Option EO} (h : evQ (.eqb neg (opd x) (opd y)) T H id = some (v, ob)) : Good P o a w0 m ρ0 Φ0 H X id v ob := by
 simp only [evQ] at h
 split at h
 ·rename_i p q hp hq
  simp only [Option.some.injEq, Prod.mk.injEq] at h
  obtain ⟨rfl, rfl⟩ := h
  refine .pure r (val := .bool (if neg then !(p == q) else p == q)) ?_ (VV_mklit rfl)
  rcases hop with ⟨rfl, rfl⟩ | ⟨rfl, rfl⟩
  ·simp [execOp, ho, VV_lit hp (VV_ev ha x), VV_lit hq (VV_ev ha y), run_eqGuard_bool, run_eql_bool X.w t p q ht]
  ·simp [execOp, ho, VV_lit hp (VV_ev ha x), VV_lit hq (VV_ev ha y), run_eqGuard_bool, run_neq_bool X.w t p q ht]
 ·simp at h
theorem run_eqGuard_ptr {w : World} (op : BinOp) (t : TypeId) (x y : Operand) (u v : Option Addr) : (eqGuard op t x y (.pointer u) (.pointer v)).run P w = .ok () w := by
 cases op <;> rfl
theorem eqpv_val {c : EC} {b : Bool} {v : Value} (h : eqpv c = some b) (hv : VR X c v) : ∃ p : Option Addr, v = .pointer p ∧ p.isNone = b := by
 unfold eqpv at h
 split at h <;> simp only [Option.some.injEq, reduceCtorEq] at h
 ·subst h; cases hv; exact ⟨none, rfl, rfl⟩
 ·subst h; obtain ⟨_, b, _, rfl⟩ := hv; exact ⟨_, rfl, rfl⟩
 ·subst h; obtain ⟨_, b, n, cap, _, rfl⟩ := hv; exact ⟨_, rfl, rfl⟩
 ·subst h; obtain ⟨b, off, _, rfl, _⟩ := hv; exact ⟨_, rfl, rfl⟩
 ·subst h; cases hv; exact ⟨_, rfl, rfl⟩
theorem g_eqp {op : BinOp} {neg : Bool} {t t' : TypeId} {x : Operand} (ho : o.op = .binOp op t x (.const (.pointer none)) t') (ht : P.underlying t = some (.pointer (P.pointee t))) (hop : (op = .eql ∧ neg = false) ∨ (op = .neq ∧ neg = true)) (r : Rel w0 m ρ0 Φ0 H X) (ha : All2 (VV X) T a.tmps.toList) {v : EV} {ob : Option EO} (h : evQ (.eqp neg (opd x)) T H id = some (v, ob)) : Good P o a w0 m ρ0 Φ0 H X id v ob := by
 simp only [evQ] at h
 obtain ⟨c, h1, h⟩ := bind_some' h
 obtain ⟨b, h2, h⟩ := map_some' h
 simp only [Prod.mk.injEq] at h
 obtain ⟨rfl, rfl⟩ := h
 obtain ⟨p, hp, rfl⟩ := eqpv_val h2 (VV_c h1 (VV_ev ha x))
 refine .pure r (val := .bool (if neg then !p.isNone else p.isNone)) ?_ (VV_mklit rfl)
 have hc : a.eval (.const (.pointer none)) = .pointer none := rfl
 rcases hop with ⟨rfl, rfl⟩ | ⟨rfl, rfl⟩
 ·simp [execOp, ho, hp, hc, run_eqGuard_ptr, run_eql_pointer_nil X.w t p ht]
 ·simp [execOp, ho, hp, hc, run_eqGuard_ptr, run_neq_pointer_nil X.w t p ht]
theorem run_eql_iface {w : World} {t : TypeId} {ms : Array (String × TypeId)} (ht : P.underlying t = some (.interface ms)) {v : Value} {b : Bool} (hv : eqiv v = some b) :
  (binOp .eql t v .nilIface).run P w = .ok (.bool b) w ∧ (binOp .neq t v .nilIface).run P w = .ok (.bool !b) w := by
 have h : ∀ d : Nat, (Op.equalIn (d + 1) t v .nilIface).run P w = .ok b w := fun d => by
  unfold eqiv at hv
  split at hv <;> simp only [Option.some.injEq, reduceCtorEq] at hv
  ·subst hv; simp [Op.equalIn, run_underlying ht]
  ·subst hv; simp [Op.equalIn, run_underlying ht]
 unfold eqiv at hv
 split at hv <;> simp only [Option.some.injEq, reduceCtorEq] at hv
 ·constructor <;> (simp only [binOp]; simp [Op.equal, Op.maxDepth, h 9999])
 ·constructor <;> (simp only [binOp]; simp [Op.equal, Op.maxDepth, h 9999])
theorem run_eqGuard_iface {w : World} (op : BinOp) (t : TypeId) (x : Operand) {v : Value} {b : Bool} (hv : eqiv v = some b) : (eqGuard op t x (.const .nilIface) v .nilIface).run P w = .ok () w := by
 unfold eqiv at hv
 split at hv <;> simp only [Option.some.injEq, reduceCtorEq] at hv
 ·cases op <;> first | rfl | simp [eqGuard]
 ·cases op <;> rfl
theorem g_eqi {op : BinOp} {neg : Bool} {t t' : TypeId} {x : Operand} {ms : Array (String × TypeId)} (ho : o.op = .binOp op t x (.const .nilIface) t') (ht : P.underlying t = some (.interface ms)) (hop : (op = .eql ∧ neg = false) ∨ (op = .neq ∧ neg = true)) (r : Rel w0 m ρ0 Φ0 H X) (ha : All2 (VV X) T a.tmps.toList) {v : EV} {ob : Option EO} (h : evQ (.eqi neg (opd x)) T H id = some (v, ob)) : Good P o a w0 m ρ0 Φ0 H X id v ob := by
 simp only [evQ] at h
 obtain ⟨c, h1, h⟩ := bind_some' h
 obtain ⟨b, h2, h⟩ := map_some' h
 simp only [Prod.mk.injEq] at h
 obtain ⟨rfl, rfl⟩ := h
 have hp := VV_lit h1 (VV_ev ha x)
 have hc : a.eval (.const .nilIface) = .nilIface := rfl
 obtain ⟨e1, e2⟩ := run_eql_iface (P := P) (w := X.w) ht h2
 refine .pure r (val := .bool (if neg then !b else b)) ?_ (VV_mklit rfl)
 rcases hop with ⟨rfl, rfl⟩ | ⟨rfl, rfl⟩
 ·simp [execOp, ho, hp, hc, run_eqGuard_iface (P := P) (w := X.w) .eql t x h2, e1]
 ·simp [execOp, ho, hp, hc, run_eqGuard_iface (P := P) (w := X.w) .neq t x h2, e2]
end
end Go.EW
namespace Go.EW
open Go
theorem flatten_get {α : Type} {es : Nat} : ∀ {xs : List (List α)} (_ : ∀ x ∈ xs, x.length = es) {i : Nat} {x : List α} (_ : xs[i]? = some x) {k : Nat} (_ : k < es), xs.flatten[i * es + k]? = x[k]?
 | [], _, i, x, hi, _, _ => by simp at hi
 | y :: r, hl, 0, x, hi, k, hk => by
  simp at hi; subst hi
  have := hl y (by simp)
  simp only [List.flatten_cons, Nat.zero_mul, Nat.zero_add]
  rw [List.getElem?_append_left (by omega)]
 | y :: r, hl, i + 1, x, hi, k, hk => by
  have hy := hl y (by simp)
  simp only [List.flatten_cons]
  rw [List.getElem?_append_right (by rw [hy, Nat.add_mul]; omega)]
  have : (i + 1) * es + k - y.length = i * es + k := by rw [hy, Nat.add_mul]; omega
  rw [this]
  exact flatten_get (fun z hz => hl z (by simp [hz])) (by simpa using hi) hk
theorem flatten_length {α : Type} {es : Nat} : ∀ {xs : List (List α)} (_ : ∀ x ∈ xs, x.length = es), xs.flatten.length = xs.length * es
 | [], _ => by simp
 | y :: r, hl => by
  have hy := hl y (by simp)
  have := flatten_length (es := es) (xs := r) (fun z hz => hl z (by simp [hz]))
  simp only [List.flatten_cons, List.length_append, List.length_cons, this, hy, Nat.add_mul]
  omega
theorem lt_of_get {α : Type} {xs : List α} {i : Nat} {x : α} (h : xs[i]? = some x) : i < xs.length := by
 rcases Nat.lt_or_ge i xs.length with h' | h'
 ·exact h'
 ·rw [List.getElem?_eq_none h'] at h; simp at h
section
variable {P : Program} {o : Oper} {w0 : World} {m : Nat} {ρ0 : Base} {Φ0 : Nat → Prop} {H : Nat → Option EO} {X : Cx} {T : List EV} {a : Act} {id : Nat}
theorem OR_row_cells {ty : TypeId} {es : Nat} {elems : List (List FV)} {h : Value} (k : OR X (.row ty es elems) h) {b n cap : Nat} (hh : h = .slice (some ⟨b, 0, none⟩) n cap) :
  n = elems.length ∧ elems.length ≤ cap ∧ ∀ j x, elems.flatten[j]? = some x → ∃ u, X.w.cell? ⟨b, j, none⟩ = some u ∧ FR X.Φ X.w x u := by
 obtain ⟨h0, hl, flat, ho, ha⟩ := k
 subst hh
 have hcells := ho.cells (g := b) rfl
 rcases ho.2 with ⟨hn, _⟩ | ⟨g, cap', cur, he, _, _, hn, _⟩
 ·simp at hn
 ·simp only [Value.slice.injEq] at he
  obtain ⟨_, rfl, rfl⟩ := he
  refine ⟨rfl, hn, ?_⟩
  intro j x hx
  obtain ⟨u, hu, hr⟩ := ha.get hx
  have := hcells j u hu
  rw [Addr.add_lit, Nat.zero_add] at this
  exact ⟨u, this, hr⟩
theorem cellsAt_spec (r : Rel w0 m ρ0 Φ0 H X) {p : EC} {v : Value} (hv : VR X p v) {cs : List EC} (h : cellsAt H p = some cs) :
  ∃ b off, v = .pointer (some ⟨b, off, none⟩) ∧ ∀ j c, cs[j]? = some c → ∃ u, X.w.cell? ⟨b, off + j, none⟩ = some u ∧ VR X c u := by
 unfold cellsAt at h
 split at h
 ·rename_i o' k
  split at h
  ·rename_i ty cells hH
   obtain rfl := Option.some.inj h
   obtain ⟨hu, b, hρ, rfl⟩ := hv
   obtain ⟨b', c, hh, hheap, ha⟩ := (r.obj o' _ hH).2
   rw [hρ] at hh
   simp at hh
   subst hh
   refine ⟨b, k, rfl, ?_⟩
   intro j c' hc
   rw [List.getElem?_drop] at hc
   obtain ⟨u, hu', hr⟩ := ha.get hc
   exact ⟨u, by rw [cell_of_row X.w b (k + j) c ty (0, 0) hheap]; simpa using hu', hr⟩
  ·simp at h
 ·rename_i o' es i k
  split at h
  ·rename_i ty es' xs hH
   split at h
   ·rename_i he
    subst he
    obtain ⟨x, hx, rfl⟩ := map_some' h
    obtain ⟨hu, b, n, cap, hρ, rfl⟩ := hv
    have hor := (r.obj o' _ hH).2
    obtain ⟨_, _, hcells⟩ := OR_row_cells hor hρ
    have hl := hor.2.1
    refine ⟨b, i * es' + k, rfl, ?_⟩
    intro j c hc
    rw [List.getElem?_drop, List.getElem?_map] at hc
    obtain ⟨y, hy, rfl⟩ := map_some' hc
    have hxl := hl x (List.mgE hx)
    have hk : k + j < es' := hxl ▸ lt_of_get hy
    obtain ⟨u, hu', hr⟩ := hcells (i * es' + (k + j)) y (by rw [flatten_get hl hx hk]; exact hy)
    exact ⟨u, by rw [show i * es' + k + j = i * es' + (k + j) by omega]; exact hu', hr⟩
   ·simp at h
  ·simp at h
 ·rename_i fs k
  obtain rfl := Option.some.inj h
  obtain ⟨b, off, _, rfl, vs, hlen, hc, hf⟩ := hv
  refine ⟨b, off + k, rfl, ?_⟩
  intro j c hcj
  rw [List.getElem?_drop, List.getElem?_map] at hcj
  obtain ⟨y, hy, rfl⟩ := map_some' hcj
  have hlt : k + j < vs.length := hlen ▸ lt_of_get hy
  refine ⟨vs[k + j], ?_, ?_⟩
  ·rw [show off + k + j = off + (k + j) by omega]
   exact hc (k + j) _ (by simp [hlt])
  ·exact hf (k + j) y _ hy (by simp [hlt])
 ·unfold gptr at h
  split at h
  case h_2 => simp at h
  rename_i g k
  obtain ⟨gs, hg, rfl⟩ := map_some' h
  cases hv
  refine ⟨g, k, rfl, ?_⟩
  intro j c hcj
  rw [List.getElem?_drop, List.getElem?_map] at hcj
  obtain ⟨y, hy, rfl⟩ := map_some' hcj
  exact (r.glob g gs hg).2 (k + j) y hy
 ·simp at h
theorem run_loadVar_one {w : World} {t : TypeId} (ht : agg? P t = some false) {ad : Addr} {v : Value} (hc : w.cell? ad = some v) : (loadVar t ad).run P w = .ok v w := by
 unfold agg? at ht
 split at ht <;> simp at ht
 rename_i d h1 h2 hu
 have hA : (isAgg t).run P w = .ok false w := by
  simp only [isAgg, Sem.run_bind, run_underlying hu, Result.andThen_ok]
  cases d <;> first | rfl | exact absurd rfl (h1 _) | exact absurd rfl (h2 _ _)
 simp [loadVar, hA, hc]
theorem agg_true {t : TypeId} (ht : agg? P t = some true) {w : World} : (isAgg t).run P w = .ok true w := by
 unfold agg? at ht
 split at ht <;> simp at ht
 ·rename_i hu; simp [isAgg, run_underlying hu]
 ·rename_i hu; simp [isAgg, run_underlying hu]
theorem agg_false {t : TypeId} (ht : agg? P t = some false) {w : World} : (isAgg t).run P w = .ok false w := by
 unfold agg? at ht
 split at ht <;> simp at ht
 rename_i d h1 h2 hu
 simp only [isAgg, Sem.run_bind, run_underlying hu, Result.andThen_ok]
 cases d <;> first | rfl | exact absurd rfl (h1 _) | exact absurd rfl (h2 _ _)
theorem run_sz {t : TypeId} {n : Nat} (h : sz P t = some n) {w : World} : (sizeOf t).run P w = .ok n w := by
 obtain ⟨i, hi, rfl⟩ := map_some' h
 simp [sizeOf, typeInfo, hi]
theorem run_loadVar_agg {w : World} {t : TypeId} (ht : agg? P t = some true) {n : Nat} (hn : sz P t = some n) {b off : Nat} {us : List Value} (hl : us.length = n) (hc : ∀ j u, us[j]? = some u → w.cell? ⟨b, off + j, none⟩ = some u) :
  (loadVar t ⟨b, off, none⟩).run P w = .ok (.agg us.toArray) w := by
 have h := run_loadCells_list (P := P) w ⟨b, off, none⟩ us (fun j v hv => by rw [Addr.add_lit]; exact hc j v hv)
 rw [hl] at h
 simp [loadVar, agg_true ht, run_sz hn, h]
theorem g_ldc {t : TypeId} {x : Operand} (ho : o.op = .load t x) (ht : agg? P t = some false) (r : Rel w0 m ρ0 Φ0 H X) (ha : All2 (VV X) T a.tmps.toList) {v : EV} {ob : Option EO} (h : evQ (.ldc (opd x)) T H id = some (v, ob)) : Good P o a w0 m ρ0 Φ0 H X id v ob := by
 simp only [evQ] at h
 obtain ⟨p, h1, h⟩ := bind_some' h
 obtain ⟨cs, h2, h⟩ := bind_some' h
 obtain ⟨c, h3, h⟩ := map_some' h
 simp only [Prod.mk.injEq] at h
 obtain ⟨rfl, rfl⟩ := h
 obtain ⟨b, off, hp, hcs⟩ := cellsAt_spec r (VV_c h1 (VV_ev ha x)) h2
 obtain ⟨u, hu, hr⟩ := hcs 0 c h3
 rw [Nat.add_zero] at hu
 refine .pure r (val := u) ?_ hr
 simp [execOp, ho, hp, Instr.loadAt, Instr.sureAddr, run_loadVar_one ht hu]
theorem cells_list (cs : List EC) {w : World} {b off : Nat} (h : ∀ j c, cs[j]? = some c → ∃ u, w.cell? ⟨b, off + j, none⟩ = some u ∧ VR X c u) :
  ∃ us : List Value, All2 (VR X) cs us ∧ ∀ j u, us[j]? = some u → w.cell? ⟨b, off + j, none⟩ = some u := by
 induction cs generalizing off with
 | nil => exact ⟨[], All2.nil, by simp⟩
 | cons c r ih =>
  obtain ⟨u, hu, hr⟩ := h 0 c rfl
  obtain ⟨us, h1, h2⟩ := ih (off := off + 1) (fun j c' hc => by
   obtain ⟨u', hu', hr'⟩ := h (j + 1) c' (by simpa using hc)
   exact ⟨u', by rw [show off + 1 + j = off + (j + 1) by omega]; exact hu', hr'⟩)
  refine ⟨u :: us, All2.cons hr h1, ?_⟩
  intro j u' hu'
  cases j with
  | zero => simp at hu'; subst hu'; exact hu
  | succ j => rw [show off + (j + 1) = off + 1 + j by omega]; exact h2 j u' (by simpa using hu')
theorem cellsAtN_spec (r : Rel w0 m ρ0 Φ0 H X) {p : EC} {v : Value} {n : Nat} (hv : VR X p v) {cs : List EC} (h : cellsAtN H n p = some cs) :
  ∃ b off, v = .pointer (some ⟨b, off, none⟩) ∧ ∀ j c, cs[j]? = some c → ∃ u, X.w.cell? ⟨b, off + j, none⟩ = some u ∧ VR X c u := by
 unfold cellsAtN at h
 obtain ⟨ds, h1, h⟩ := bind_some' h
 split at h
 ·obtain rfl := Option.some.inj h
  exact cellsAt_spec r hv h1
 ·unfold cellsRun at h
  split at h
  ·rename_i o' es i k _
   split at h
   ·rename_i ty es' xs hH
    split at h
    ·rename_i he
     subst he
     obtain rfl := Option.some.inj h
     obtain ⟨hu, b, n, cap, hρ, rfl⟩ := hv
     have hor := (r.obj o' _ hH).2
     obtain ⟨_, _, hcells⟩ := OR_row_cells hor hρ
     refine ⟨b, i * es' + k, rfl, ?_⟩
     intro j c hc
     rw [List.getElem?_map, List.getElem?_drop] at hc
     obtain ⟨y, hy, rfl⟩ := map_some' hc
     obtain ⟨u, hu', hr⟩ := hcells (i * es' + k + j) y hy
     exact ⟨u, hu', hr⟩
    ·simp at h
   ·simp at h
  ·simp at h
theorem g_lda {t : TypeId} {x : Operand} {n : Nat} (ho : o.op = .load t x) (ht : agg? P t = some true) (hn : sz P t = some n) (r : Rel w0 m ρ0 Φ0 H X) (ha : All2 (VV X) T a.tmps.toList) {v : EV} {ob : Option EO} (h : evQ (.lda n (opd x)) T H id = some (v, ob)) : Good P o a w0 m ρ0 Φ0 H X id v ob := by
 simp only [evQ] at h
 obtain ⟨p, h1, h⟩ := bind_some' h
 obtain ⟨cs, h2, h⟩ := bind_some' h
 split at h
 ·rename_i hle
  simp only [Option.some.injEq, Prod.mk.injEq] at h
  obtain ⟨rfl, rfl⟩ := h
  obtain ⟨b, off, hp, hcs⟩ := cellsAtN_spec r (VV_c h1 (VV_ev ha x)) h2
  obtain ⟨us, hall, hcell⟩ := cells_list (X := X) (cs.take n) (w := X.w) (b := b) (off := off) (fun j c hc => by
   rw [List.getElem?_take] at hc
   split at hc
   ·exact hcs j c hc
   ·simp at hc)
  have hlen : us.length = n := by rw [← hall.1]; simp; omega
  refine .pure r (val := .agg us.toArray) ?_ ⟨us, rfl, hall⟩
  simp [execOp, ho, hp, Instr.loadAt, Instr.sureAddr, run_loadVar_agg ht hn hlen hcell]
 ·simp at h
theorem notNil_val {c : EC} {v : Value} (h : notNil c = true) (hv : VR X c v) : (∃ ad, v = .pointer (some ad)) ∨ (∃ f vs, v = .func (.func f) #[] vs) := by
 unfold notNil at h
 split at h
 ·obtain ⟨_, b, _, rfl⟩ := hv; exact .inl ⟨_, rfl⟩
 ·obtain ⟨_, b, n, cap, _, rfl⟩ := hv; exact .inl ⟨_, rfl⟩
 ·obtain ⟨b, off, _, rfl, _⟩ := hv; exact .inl ⟨_, rfl⟩
 ·obtain ⟨vs, rfl, _⟩ := hv; exact .inr ⟨_, _, rfl⟩
 ·cases hv; exact .inl ⟨_, rfl⟩
 ·simp at h
theorem g_nilc {x : Operand} (ho : o.op = .nilCheck x) (r : Rel w0 m ρ0 Φ0 H X) (ha : All2 (VV X) T a.tmps.toList) {v : EV} {ob : Option EO} (h : evQ (.nilc (opd x)) T H id = some (v, ob)) : Good P o a w0 m ρ0 Φ0 H X id v ob := by
 simp only [evQ] at h
 obtain ⟨p, h1, h⟩ := bind_some' h
 split at h
 ·rename_i hn
  simp only [Option.some.injEq, Prod.mk.injEq] at h
  obtain ⟨rfl, rfl⟩ := h
  have hv := VV_c h1 (VV_ev ha x)
  refine .pure r (val := a.eval x) ?_ hv
  rcases notNil_val hn hv with ⟨ad, e⟩ | ⟨f, vs, e⟩
  ·simp [execOp, ho, e]
  ·simp [execOp, ho, e]
 ·simp at h
theorem field_some {s : TypeId} {f : Nat} {fl : Field} (h : fieldOf P s f = some fl) : ∃ fs, P.underlying s = some (.struct fs) ∧ fs[f]? = some fl := by
 unfold fieldOf at h
 split at h
 ·exact ⟨_, by assumption, h⟩
 ·simp at h
theorem g_fad {s : TypeId} {x : Operand} {f : Nat} {fl : Field} {n : Nat} (ho : o.op = .fieldAddr s x f) (hf : fieldOf P s f = some fl) (hn : sz P fl.type = some n) (hz : n ≠ 0) (r : Rel w0 m ρ0 Φ0 H X) (ha : All2 (VV X) T a.tmps.toList) {v : EV} {ob : Option EO} (h : evQ (.fad fl.offset (opd x)) T H id = some (v, ob)) : Good P o a w0 m ρ0 Φ0 H X id v ob := by
 obtain ⟨fs, hu, hfl⟩ := field_some hf
 have run : ∀ b off, a.eval x = .pointer (some ⟨b, off, none⟩) → (execOp a.eval o).run P X.w = .ok (.value (.pointer (some ⟨b, off + fl.offset, none⟩))) X.w := by
  intro b off e
  simp [execOp, ho, e, Instr.fieldAt, run_underlying hu, hfl, Instr.sureAddr, fieldPlace, run_sz hn, hz, Addr.add_lit]
 simp only [evQ] at h
 split at h
 ·rename_i o' k h1
  simp only [Option.some.injEq, Prod.mk.injEq] at h
  obtain ⟨rfl, rfl⟩ := h
  obtain ⟨hu', b, hρ, e⟩ := VV_c h1 (VV_ev ha x)
  exact .pure r (run b k e) ⟨hu', b, hρ, rfl⟩
 ·rename_i o' es i k h1
  simp only [Option.some.injEq, Prod.mk.injEq] at h
  obtain ⟨rfl, rfl⟩ := h
  obtain ⟨hu', b, n', cap, hρ, e⟩ := VV_c h1 (VV_ev ha x)
  exact .pure r (run b _ e) ⟨hu', b, n', cap, hρ, by rw [Nat.add_assoc]⟩
 ·rename_i cs k h1
  simp only [Option.some.injEq, Prod.mk.injEq] at h
  obtain ⟨rfl, rfl⟩ := h
  obtain ⟨b, off, hb', e, rest⟩ := VV_c h1 (VV_ev ha x)
  exact .pure r (run b _ e) ⟨b, off, hb', by rw [Nat.add_assoc], rest⟩
 ·rename_i g k h1
  simp only [Option.some.injEq, Prod.mk.injEq] at h
  obtain ⟨rfl, rfl⟩ := h
  have e : a.eval x = .pointer (some ⟨g, k, none⟩) := VV_lit (by rw [asC_some h1]; rfl) (VV_ev ha x)
  exact .pure r (run g k e) (VV_mklit rfl)
 ·simp at h
theorem g_fgc {s : TypeId} {x : Operand} {f : Nat} {fl : Field} (ho : o.op = .field s x f) (hf : fieldOf P s f = some fl) (hag : agg? P fl.type = some false) (r : Rel w0 m ρ0 Φ0 H X) (ha : All2 (VV X) T a.tmps.toList) {v : EV} {ob : Option EO} (h : evQ (.fgc fl.offset (opd x)) T H id = some (v, ob)) : Good P o a w0 m ρ0 Φ0 H X id v ob := by
 obtain ⟨fs, hu, hfl⟩ := field_some hf
 simp only [evQ] at h
 obtain ⟨cs, h1, h⟩ := bind_some' h
 obtain ⟨c, h2, h⟩ := map_some' h
 simp only [Prod.mk.injEq] at h
 obtain ⟨rfl, rfl⟩ := h
 obtain ⟨vs, e, hall⟩ := VV_ag h1 (VV_ev ha x)
 obtain ⟨u, hu', hr⟩ := hall.get h2
 refine .pure r (val := u) ?_ hr
 simp [execOp, ho, e, Instr.field, run_underlying hu, hfl, asAgg, part, agg_false hag, hu']
theorem extract_toList {α : Type} (vs : List α) (i j : Nat) : (vs.toArray.extract i j) = ((vs.drop i).take (j - i)).toArray := by
 simp [List.extract_toArray, List.extract_eq_take_drop]
theorem g_fga {s : TypeId} {x : Operand} {f : Nat} {fl : Field} {n : Nat} (ho : o.op = .field s x f) (hf : fieldOf P s f = some fl) (hag : agg? P fl.type = some true) (hn : sz P fl.type = some n) (r : Rel w0 m ρ0 Φ0 H X) (ha : All2 (VV X) T a.tmps.toList) {v : EV} {ob : Option EO} (h : evQ (.fga fl.offset n (opd x)) T H id = some (v, ob)) : Good P o a w0 m ρ0 Φ0 H X id v ob := by
 obtain ⟨fs, hu, hfl⟩ := field_some hf
 simp only [evQ] at h
 obtain ⟨cs, h1, h⟩ := bind_some' h
 split at h
 ·simp only [Option.some.injEq, Prod.mk.injEq] at h
  obtain ⟨rfl, rfl⟩ := h
  obtain ⟨vs, e, hall⟩ := VV_ag h1 (VV_ev ha x)
  refine .pure r (val := .agg ((vs.drop fl.offset).take n).toArray) ?_ ⟨_, rfl, (hall.drop _).take _⟩
  simp only [execOp, ho, e, Instr.field, Sem.run_bind, run_underlying hu, Result.andThen_ok, hfl, asAgg, part, agg_true hag, run_sz hn, if_true, Sem.run_pure, extract_toList]
  simp
 ·simp at h
end
end Go.EW
namespace Go.EW
open Go
section
variable {P : Program} {o : Oper} {w0 : World} {m : Nat} {ρ0 : Base} {Φ0 : Nat → Prop} {H : Nat → Option EO} {X : Cx} {T : List EV} {a : Act} {id : Nat}
theorem heap_new (w : World) (ob : Obj) : (w.alloc ob).heap[w.heap.size]? = some ob := by
 show (w.heap.push ob)[w.heap.size]? = _
 simp
theorem heap_old (w : World) (ob : Obj) (b : Nat) (h : b < w.heap.size) : (w.alloc ob).heap[b]? = w.heap[b]? := by
 show (w.heap.push ob)[b]? = _
 rw [Array.getElem?_push, if_neg (by omega)]
theorem Good.box {ty : TypeId} {cs : List EC} {vs : List Value} (r : Rel w0 m ρ0 Φ0 H X) (hid : ¬ X.U id) (hm : m ≤ id) (hall : All2 (VR X) cs vs)
  (h : (execOp a.eval o).run P X.w = .ok (.value (.pointer (some ⟨X.w.heap.size, 0, none⟩))) (X.w.alloc (.cells vs.toArray ty))) :
  Good P o a w0 m ρ0 Φ0 H X id (.v (.c (.ptr id 0))) (some (.box ty cs)) := by
 have hlater : Later X { U := fun o => X.U o ∨ o = id, ρ := upd X.ρ id (.pointer (some ⟨X.w.heap.size, 0, none⟩)), Φ := X.Φ, w := X.w.alloc (.cells vs.toArray ty) } :=
  ⟨fun _ h => .inl h, fun o' hu => upd_ne _ _ _ (fun e => hid (e ▸ hu)), fun _ h => h, fun b hb => heap_old _ _ _ (r.fro b hb)⟩
 obtain ⟨r', l'⟩ := r.new (w' := X.w.alloc (.cells vs.toArray ty)) rfl rfl rfl (by simp) (fun b hb => heap_old _ _ _ hb) id hid hm (.box ty cs) (.pointer (some ⟨X.w.heap.size, 0, none⟩))
  (by intro b hb'; simp [ft, hb] at hb'; omega)
  ⟨X.w.heap.size, vs.toArray, rfl, heap_new _ _, by simpa using hall.mono fun _ _ => hlater.vr⟩
 refine ⟨_, _, h, r', l', ?_, ?_⟩
 ·intro i; simp
 ·exact ⟨.inr rfl, X.w.heap.size, by simp [upd_same], rfl⟩
theorem zer_some {t : TypeId} {z : List Value} (h : zer P t = some z) : ∃ i zv, P.info? t = some i ∧ i.zero = some zv ∧ zv.cells.toList = z ∧ ∀ v ∈ z, v.oneCell' = true := by
 unfold zer at h
 split at h
 ·rename_i zv hz
  split at h
  ·rename_i hall
   obtain rfl := Option.some.inj h
   obtain ⟨i, hi, hzi⟩ := bind_some' hz
   exact ⟨i, zv, hi, hzi, rfl, fun v hv => (List.all_eq_true.1 hall) v hv⟩
  ·simp at h
 ·simp at h
theorem All2_lits {vs : List Value} (h : ∀ v ∈ vs, v.oneCell' = true) : All2 (VR X) (vs.map litc) vs := by
 refine ⟨by simp, ?_⟩
 intro i x y hx hy
 rw [List.getElem?_map] at hx
 obtain ⟨z, hz, rfl⟩ := map_some' hx
 obtain rfl := Option.some.inj (hz.symm.trans hy)
 exact FR.lit _ (h z (List.mgE hz))
theorem g_alloc {t : TypeId} {z : List Value} (ho : o.op = .alloc t) (hz : zer P t = some z) (r : Rel w0 m ρ0 Φ0 H X) (hid : ¬ X.U id) (hm : m ≤ id) {v : EV} {ob : Option EO} (h : evQ (.alloc t z) T H id = some (v, ob)) : Good P o a w0 m ρ0 Φ0 H X id v ob := by
 simp only [evQ, Option.some.injEq, Prod.mk.injEq] at h
 obtain ⟨rfl, rfl⟩ := h
 obtain ⟨i, zv, hi, hzi, rfl, hone⟩ := zer_some hz
 refine .box r hid hm (All2_lits hone) ?_
 simp [execOp, ho, Instr.alloc, zeroValue, typeInfo, hi, hzi, newVar, newRow]
theorem g_box {t : TypeId} {x : Operand} (ho : o.op = .box t x) (r : Rel w0 m ρ0 Φ0 H X) (ha : All2 (VV X) T a.tmps.toList) (hid : ¬ X.U id) (hm : m ≤ id) {v : EV} {ob : Option EO} (h : evQ (.box t (opd x)) T H id = some (v, ob)) : Good P o a w0 m ρ0 Φ0 H X id v ob := by
 simp only [evQ] at h
 obtain ⟨cs, h1, h⟩ := map_some' h
 simp only [Prod.mk.injEq] at h
 obtain ⟨rfl, rfl⟩ := h
 refine .box r hid hm (VV_cells h1 (VV_ev ha x)) ?_
 simp [execOp, ho, Instr.box, newVar, newRow]
theorem foldl_zip_aux (off : Nat) : ∀ (c : List Value) (j : Nat) (cells : List Value), off + j + c.length ≤ cells.length →
  ((c.zipIdx j).foldl (fun (cs : Array Value) (p : Value × Nat) => cs.setIfInBounds (off + p.2) p.1) cells.toArray) = (cells.take (off + j) ++ c ++ cells.drop (off + j + c.length)).toArray
 | [], j, cells, _ => by simp
 | v :: r, j, cells, hle => by
  simp only [List.zipIdx_cons, List.foldl_cons]
  have := foldl_zip_aux off r (j + 1) (cells.set (off + j) v) (by simp at hle ⊢; omega)
  simp only [List.setIfInBounds_toArray]
  rw [this]
  congr 1
  simp only [List.length_cons] at hle
  apply List.ext_getElem?
  intro i
  simp only [List.getElem?_append, List.length_append, List.length_take, List.length_set, List.getElem?_take, List.getElem?_drop, List.getElem?_set, List.length_cons, List.getElem?_cons]
  have e1 : min (off + (j + 1)) cells.length = off + j + 1 := by omega
  have e2 : min (off + j) cells.length = off + j := by omega
  rw [e1, e2]
  rcases Nat.lt_trichotomy i (off + j) with h | h | h
  ·rw [if_pos (by omega), if_pos (by omega), if_pos (by omega), if_neg (by omega), if_pos (by omega), if_pos (by omega), if_pos (by omega)]
  ·subst h
   rw [if_pos (by omega), if_pos (by omega), if_pos (by omega), if_pos rfl, if_pos (by omega), if_pos (by omega), if_neg (by omega), if_pos (by omega)]
  ·by_cases h' : i < off + j + 1 + r.length
   ·rw [if_pos (by omega), if_neg (by omega), if_pos (by omega), if_neg (by omega), if_neg (by omega)]
    congr 1
    try omega
   ·rw [if_neg (by omega), if_neg (by omega), if_neg (by omega)]
    congr 1
    try omega
theorem array_foldl_list {α β : Type} (f : β → α → β) (b : β) (xs : Array α) : xs.foldl f b = xs.toList.foldl f b := by
 rw [Array.foldl_toList]
theorem fill_step (off n : Nat) (v : Value) (cells : List Value) (hl : v.cells.size = n) (hle : off + n ≤ cells.length) :
  v.cells.zipIdx.foldl (fun (cs : Array Value) (p : Value × Nat) => cs.setIfInBounds (off + p.2) p.1) cells.toArray = (cells.take off ++ v.cells.toList ++ cells.drop (off + n)).toArray := by
 rw [array_foldl_list]
 have := foldl_zip_aux off v.cells.toList 0 cells (by simp; omega)
 simp only [Array.toList_zipIdx]
 rw [this]
 simp [hl]
theorem putAt_some {cs : List EC} {off n : Nat} {x cs' : List EC} (h : putAt cs off n x = some cs') : x.length = n ∧ off + n ≤ cs.length ∧ cs' = cs.take off ++ x ++ cs.drop (off + n) := by
 unfold putAt at h
 split at h
 ·rename_i hh; exact ⟨hh.1, hh.2, (Option.some.inj h).symm⟩
 ·simp at h
theorem fill_parts (place : Nat → Option (Nat × Nat)) (ha : All2 (VV X) T a.tmps.toList) :
  ∀ (parts : List (Nat × Operand)) (ps : List (Nat × Nat × Opd)) (cs cs' : List EC) (us : List Value), placeAll place parts = some ps → putParts T cs ps = some cs' → All2 (VR X) cs us →
   ∃ us', Instr.fill place us.toArray (parts.map fun p => (p.1, a.eval p.2)) = some us'.toArray ∧ All2 (VR X) cs' us'
 | [], ps, cs, cs', us, hp, hq, hall => by
  simp [placeAll] at hp; subst hp
  simp [putParts] at hq; subst hq
  exact ⟨us, rfl, hall⟩
 | (i, x) :: rest, ps, cs, cs', us, hp, hq, hall => by
  simp only [placeAll] at hp
  obtain ⟨⟨off, n⟩, h1, hp⟩ := bind_some' hp
  obtain ⟨ps', h2, rfl⟩ := map_some' hp
  simp only [putParts] at hq
  obtain ⟨c, h3, hq⟩ := bind_some' hq
  obtain ⟨cs1, h4, hq⟩ := bind_some' hq
  obtain ⟨hl, hle, rfl⟩ := putAt_some h4
  have hc := VV_cells h3 (VV_ev ha x)
  have hsz : (a.eval x).cells.size = n := by rw [← hl, hc.1]; simp
  have hle' : off + n ≤ us.length := hall.1 ▸ hle
  have hall1 : All2 (VR X) (cs.take off ++ c ++ cs.drop (off + n)) (us.take off ++ (a.eval x).cells.toList ++ us.drop (off + n)) := ((hall.take off).append hc).append (hall.drop _)
  obtain ⟨us', hf, hr⟩ := fill_parts place ha rest ps' _ cs' _ h2 hq hall1
  refine ⟨us', ?_, hr⟩
  simp only [List.map_cons, Instr.fill, h1]
  rw [if_neg (by simp [hsz]; exact hle')]
  have := fill_step off n (a.eval x) us hsz hle'
  rw [this]
  exact hf
theorem structPlaces_run {w : World} : ∀ (fs : List Field) (pl : List (Nat × Nat)), structPlaces P fs = some pl → (fs.mapM (m := Sem) fun f => do pure (f.offset, ← sizeOf f.type)).run P w = .ok pl w
 | [], pl, h => by simp [structPlaces] at h; subst h; rfl
 | f :: r, pl, h => by
  simp only [structPlaces] at h
  obtain ⟨n, h1, h⟩ := bind_some' h
  obtain ⟨pl', h2, rfl⟩ := map_some' h
  have := structPlaces_run (w := w) r pl' h2
  simp only [List.mapM_cons, Sem.run_bind, run_sz h1, Result.andThen_ok, Sem.run_pure]
  rw [this]
  simp
theorem arr_mapM_list {α β : Type} (f : α → Sem β) (xs : Array α) (w : World) (ys : List β) (h : (xs.toList.mapM f).run P w = .ok ys w) : (xs.mapM f).run P w = .ok ys.toArray w := by
 rw [Array.mapM_eq_mapM_toList]
 simp [h]
theorem run_zeroValue {t : TypeId} {i : TypeInfo} {z : Value} (hi : P.info? t = some i) (hz : i.zero = some z) {w : World} : (zeroValue t).run P w = .ok z w := by
 simp [zeroValue, typeInfo, hi, hz]
theorem g_build {t : TypeId} {parts : Array (Nat × Operand)} {z : List Value} {ps : List (Nat × Nat × Opd)} (ho : o.op = .build t parts) (hz : zer P t = some z)
  (hp : (∃ fs pl, P.underlying t = some (.struct fs) ∧ structPlaces P fs.toList = some pl ∧ placeAll (fun (i : Nat) => pl[i]?) parts.toList = some ps) ∨ (∃ l e n, P.underlying t = some (.array l e) ∧ sz P e = some n ∧ placeAll (fun i => some (i * n, n)) parts.toList = some ps))
  (r : Rel w0 m ρ0 Φ0 H X) (ha : All2 (VV X) T a.tmps.toList) {v : EV} {ob : Option EO} (h : evQ (.build z ps) T H id = some (v, ob)) : Good P o a w0 m ρ0 Φ0 H X id v ob := by
 simp only [evQ] at h
 obtain ⟨cs, h1, h⟩ := map_some' h
 simp only [Prod.mk.injEq] at h
 obtain ⟨rfl, rfl⟩ := h
 obtain ⟨i, zv, hi, hzi, rfl, hone⟩ := zer_some hz
 rcases hp with ⟨fs, pl, hu, hpl, hpa⟩ | ⟨l, e, n, hu, hn, hpa⟩
 ·obtain ⟨us', hf, hr⟩ := fill_parts (X := X) (fun (i : Nat) => pl[i]?) ha parts.toList ps _ cs _ hpa h1 (All2_lits hone)
  refine .pure r (val := .agg us'.toArray) ?_ ⟨us', rfl, hr⟩
  have hm := arr_mapM_list (P := P) _ fs X.w pl (structPlaces_run fs.toList pl hpl)
  simp only [execOp, ho, Instr.build, Sem.run_bind, run_zeroValue hi hzi, Result.andThen_ok, run_underlying hu, hm]
  have e1 : (parts.map fun (p : Nat × Operand) => (p.1, a.eval p.2)).toList = parts.toList.map fun p => (p.1, a.eval p.2) := by simp
  have e2 : (fun (x : Nat) => pl.toArray[x]?) = fun (i : Nat) => pl[i]? := by funext i; simp
  simp only [e1, e2]
  simp only [Array.toArray_toList] at hf
  rw [hf]
  simp
 ·obtain ⟨us', hf, hr⟩ := fill_parts (X := X) (fun i => some (i * n, n)) ha parts.toList ps _ cs _ hpa h1 (All2_lits hone)
  refine .pure r (val := .agg us'.toArray) ?_ ⟨us', rfl, hr⟩
  simp only [execOp, ho, Instr.build, Sem.run_bind, run_zeroValue hi hzi, Result.andThen_ok, run_underlying hu, run_sz hn]
  have e1 : (parts.map fun (p : Nat × Operand) => (p.1, a.eval p.2)).toList = parts.toList.map fun p => (p.1, a.eval p.2) := by simp
  simp only [e1]
  simp only [Array.toArray_toList] at hf
  rw [hf]
  simp
end
end Go.EW
