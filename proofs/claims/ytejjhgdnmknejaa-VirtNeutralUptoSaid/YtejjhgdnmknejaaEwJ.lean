/- Contracts over E-values, and a call by a contract: renaming of objects, what is handed over, what comes back. -/
import Derived.Test.YtejjhgdnmknejaaEwI
namespace Go.EW
open Go

/-! ### renaming -/
def renC (g : Nat → Nat) : EC → EC
  | .fz x => .fz x
  | .ptr o k => .ptr (g o) k
  | .eptr o es i k => .eptr (g o) es i k
  | .row o len => .row (g o) len
  | .bsl o k len => .bsl (g o) k len
  | .rsl o k len => .rsl (g o) k len
  | .fptr cs k => .fptr cs k
  | .clo f caps => .clo f (caps.map fun p => (g p.1, p.2))
def renT (g : Nat → Nat) : TV → TV
  | .c x => .c (renC g x)
  | .agg cs => .agg (cs.map (renC g))
def renV (g : Nat → Nat) : EV → EV
  | .v t => .v (renT g t)
  | .tup ts => .tup (ts.map (renT g))
  | .any => .any
def renO (g : Nat → Nat) : EO → EO
  | .box ty cs => .box ty (cs.map (renC g))
  | .row ty es xs => .row ty es xs

def refsC : EC → List Nat
  | .fz _ | .fptr _ _ => []
  | .ptr o _ | .eptr o _ _ _ | .row o _ | .bsl o _ _ | .rsl o _ _ => [o]
  | .clo _ caps => caps.map (·.1)
def refsT : TV → List Nat
  | .c x => refsC x
  | .agg cs => cs.flatMap refsC
def refsV : EV → List Nat
  | .v t => refsT t
  | .tup ts => ts.flatMap refsT
  | .any => []
def refsO : EO → List Nat
  | .box _ cs => cs.flatMap refsC
  | .row _ _ _ => []

/-- No frozen memory in it. -/
def noSlC : EC → Bool
  | .fz (.sl _ _) => false
  | .fptr _ _ => false
  | _ => true
def noSlF : FV → Bool
  | .sl _ _ => false
  | .lit _ => true
def noSlT : TV → Bool
  | .c x => noSlC x
  | .agg cs => cs.all noSlC
def noSlV : EV → Bool
  | .v t => noSlT t
  | .tup ts => ts.all noSlT
  | .any => true
def noSlO : EO → Bool
  | .box _ cs => cs.all noSlC
  | .row _ _ xs => xs.all fun x => x.all noSlF

/-- Renamed values in a context that knows the new names. -/
structure RenCx (C Y : Cx) (g : Nat → Nat) : Prop where
  U : ∀ o, C.U o → Y.U (g o)
  ρ : ∀ o, C.U o → Y.ρ (g o) = C.ρ o
  w : Y.w = C.w

theorem ren_vr {C Y : Cx} {g : Nat → Nat} (h : RenCx C Y g) {x : EC} {v : Value} (hf : noSlC x = true ∨ ∀ b, C.Φ b → Y.Φ b) (k : VR C x v) : VR Y (renC g x) v := by
  cases x with
  | fz x =>
    rcases hf with hf | hf
    · cases x with
      | lit u => cases k; exact FR.lit _ (by assumption)
      | sl es xs => simp [noSlC] at hf
    · exact FR.stable (fun b _ => by rw [h.w]) hf k
  | ptr o i => exact ⟨h.U o k.1, by rw [h.ρ o k.1]; exact k.2⟩
  | eptr o es i j => exact ⟨h.U o k.1, by rw [h.ρ o k.1]; exact k.2⟩
  | row o len => exact ⟨h.U o k.1, by rw [h.ρ o k.1]; exact k.2⟩
  | bsl o i len => exact ⟨h.U o k.1, by rw [h.ρ o k.1]; exact k.2⟩
  | rsl o i len => exact ⟨h.U o k.1, by rw [h.ρ o k.1]; exact k.2⟩
  | fptr cs i =>
    rcases hf with hf | hf
    · simp [noSlC] at hf
    · obtain ⟨b, off, hb, hv, vs, hl, hc, hfr⟩ := k
      exact ⟨b, off, hf b hb, hv, vs, hl, fun j u hu => by rw [h.w]; exact hc j u hu, fun j x u hx hu => FR.stable (fun b _ => by rw [h.w]) hf (hfr j x u hx hu)⟩
  | clo f caps =>
    obtain ⟨vs, hv, ha⟩ := k
    refine ⟨vs, hv, by rw [List.length_map]; exact ha.1, ?_⟩
    intro i p u hp hu
    rw [List.getElem?_map] at hp
    obtain ⟨q, hq, rfl⟩ := map_some' hp
    obtain ⟨h1, h2⟩ := ha.2 i q u hq hu
    exact ⟨h.U _ h1, by rw [h.ρ _ h1]; exact h2⟩

theorem ren_all {C Y : Cx} {g : Nat → Nat} (h : RenCx C Y g) {cs : List EC} {vs : List Value} (hf : cs.all noSlC = true ∨ ∀ b, C.Φ b → Y.Φ b) (k : All2 (VR C) cs vs) : All2 (VR Y) (cs.map (renC g)) vs := by
  refine ⟨by rw [List.length_map]; exact k.1, ?_⟩
  intro i x y hx hy
  rw [List.getElem?_map] at hx
  obtain ⟨z, hz, rfl⟩ := map_some' hx
  exact ren_vr h (hf.imp (fun h => (List.all_eq_true.1 h) z (List.mem_of_getElem? hz)) id) (k.2 i z y hz hy)

theorem ren_vt {C Y : Cx} {g : Nat → Nat} (h : RenCx C Y g) {x : TV} {v : Value} (hf : noSlT x = true ∨ ∀ b, C.Φ b → Y.Φ b) (k : VT C x v) : VT Y (renT g x) v := by
  cases x with
  | c x => exact ren_vr h hf k
  | agg cs => obtain ⟨vs, hv, ha⟩ := k; exact ⟨vs, hv, ren_all h hf ha⟩

theorem ren_vv {C Y : Cx} {g : Nat → Nat} (h : RenCx C Y g) {x : EV} {v : Value} (hf : noSlV x = true ∨ ∀ b, C.Φ b → Y.Φ b) (k : VV C x v) : VV Y (renV g x) v := by
  cases x with
  | v x => exact ren_vt h hf k
  | tup ts =>
    obtain ⟨vs, hv, ha⟩ := k
    refine ⟨vs, hv, by rw [List.length_map]; exact ha.1, ?_⟩
    intro i x y hx hy
    rw [List.getElem?_map] at hx
    obtain ⟨z, hz, rfl⟩ := map_some' hx
    exact ren_vt h (hf.imp (fun h => (List.all_eq_true.1 h) z (List.mem_of_getElem? hz)) id) (ha.2 i z y hz hy)
  | any => trivial

theorem FR_noSl {Φ Φ' : Nat → Prop} {w w' : World} {x : FV} {v : Value} (h : noSlF x = true) (k : FR Φ w x v) : FR Φ' w' x v := by
  cases x with
  | lit u => cases k; exact FR.lit _ (by assumption)
  | sl es xs => simp [noSlF] at h

theorem ren_or {C Y : Cx} {g : Nat → Nat} (h : RenCx C Y g) {x : EO} {v : Value} (hf : noSlO x = true ∨ ∀ b, C.Φ b → Y.Φ b) (k : OR C x v) : OR Y (renO g x) v := by
  cases x with
  | box ty cs =>
    obtain ⟨b, c, hv, hh, ha⟩ := k
    exact ⟨b, c, hv, by rw [h.w]; exact hh, ren_all h hf ha⟩
  | row ty es xs =>
    obtain ⟨h0, hl, flat, ho, ha⟩ := k
    refine ⟨h0, hl, flat, by rw [h.w]; exact ho, ha.1, ?_⟩
    intro i x y hx hy
    rcases hf with hf | hf
    · refine FR_noSl ?_ (ha.2 i x y hx hy)
      have hx' := List.mem_of_getElem? hx
      obtain ⟨l, hl1, hl2⟩ := List.mem_flatten.1 hx'
      have := (List.all_eq_true.1 hf) l hl1
      exact (List.all_eq_true.1 this) x hl2
    · exact FR.stable (fun b _ => by rw [h.w]) hf (ha.2 i x y hx hy)

/-- What a value names is in use. -/
theorem refs_vr {X : Cx} {x : EC} {v : Value} (k : VR X x v) : ∀ o ∈ refsC x, X.U o := by
  cases x with
  | fz x => simp [refsC]
  | ptr o i => simpa [refsC] using k.1
  | eptr o es i j => simpa [refsC] using k.1
  | row o len => simpa [refsC] using k.1
  | bsl o i len => simpa [refsC] using k.1
  | rsl o i len => simpa [refsC] using k.1
  | fptr cs i => simp [refsC]
  | clo f caps =>
    obtain ⟨vs, _, ha⟩ := k
    intro o ho
    simp only [refsC, List.mem_map] at ho
    obtain ⟨p, hp, rfl⟩ := ho
    obtain ⟨j, hj⟩ := List.getElem?_of_mem hp
    obtain ⟨u, _, hu⟩ := ha.get hj
    exact hu.1
theorem refs_all {X : Cx} {cs : List EC} {vs : List Value} (k : All2 (VR X) cs vs) : ∀ o ∈ cs.flatMap refsC, X.U o := by
  intro o ho
  obtain ⟨x, hx, hxo⟩ := List.mem_flatMap.1 ho
  obtain ⟨j, hj⟩ := List.getElem?_of_mem hx
  obtain ⟨u, _, hu⟩ := k.get hj
  exact refs_vr hu o hxo
theorem refs_vt {X : Cx} {x : TV} {v : Value} (k : VT X x v) : ∀ o ∈ refsT x, X.U o := by
  cases x with
  | c x => exact refs_vr k
  | agg cs => obtain ⟨vs, _, ha⟩ := k; exact refs_all ha
theorem refs_vv {X : Cx} {x : EV} {v : Value} (k : VV X x v) : ∀ o ∈ refsV x, X.U o := by
  cases x with
  | v x => exact refs_vt k
  | tup ts =>
    obtain ⟨vs, _, ha⟩ := k
    intro o ho
    obtain ⟨x, hx, hxo⟩ := List.mem_flatMap.1 ho
    obtain ⟨j, hj⟩ := List.getElem?_of_mem hx
    obtain ⟨u, _, hu⟩ := ha.get hj
    exact refs_vt hu o hxo
  | any => simp [refsV]
theorem refs_or {X : Cx} {x : EO} {v : Value} (k : OR X x v) : ∀ o ∈ refsO x, X.U o := by
  cases x with
  | box ty cs => obtain ⟨b, c, _, _, ha⟩ := k; exact refs_all ha
  | row ty es xs => simp [refsO]

/-! ### what is handed over -/
def idx : List Nat → Nat → Option Nat
  | [], _ => none
  | a :: r, o => if a = o then some 0 else (idx r o).map (· + 1)
theorem idx_some : ∀ {l : List Nat} {o j : Nat}, idx l o = some j → l[j]? = some o
  | [], o, j, h => by simp [idx] at h
  | a :: r, o, j, h => by
    unfold idx at h
    split at h
    · rename_i e; subst e; obtain rfl := Option.some.inj h; rfl
    · obtain ⟨k, hk, rfl⟩ := map_some' h
      simpa using idx_some hk
theorem idx_none : ∀ {l : List Nat} {o : Nat}, idx l o = none → o ∉ l
  | [], o, _ => by simp
  | a :: r, o, h => by
    unfold idx at h
    split at h
    · simp at h
    · rename_i e
      simp only [Option.map_eq_none_iff] at h
      simp only [List.mem_cons, not_or]
      exact ⟨fun e' => e e'.symm, idx_none h⟩
theorem idx_mem : ∀ {l : List Nat} {o : Nat}, o ∈ l → ∃ j, idx l o = some j
  | [], o, h => by simp at h
  | a :: r, o, h => by
    unfold idx
    split
    · exact ⟨0, rfl⟩
    · rename_i e
      rcases List.mem_cons.1 h with h | h
      · exact absurd h.symm e
      · obtain ⟨j, hj⟩ := idx_mem h
        exact ⟨j + 1, by simp [hj]⟩

def capsIn (ids : List Nat) : List (Nat × Nat) → Option (List (Nat × Nat))
  | [] => some []
  | (o, k) :: r => (idx ids o).bind fun j => (capsIn ids r).map ((j, k) :: ·)

/-- A cell as the callee names it; a slice of an object that is not handed over is handed over frozen. -/
def conC (H : Nat → Option EO) (ids : List Nat) : EC → Option EC
  | .fz x => some (.fz x)
  | .fptr cs k => some (.fptr cs k)
  | .ptr o k => (idx ids o).map fun j => .ptr j k
  | .eptr o es i k => (idx ids o).map fun j => .eptr j es i k
  | .clo f caps => (capsIn ids caps).map fun cs => .clo f cs
  | .row o len => match idx ids o with
    | some j => some (.row j len)
    | none => match H o with
      | some (.row _ es xs) => some (.fz (.sl es (xs.take len)))
      | _ => none
  | .bsl o k len => match idx ids o with
    | some j => some (.bsl j k len)
    | none => match H o with
      | some (.box _ cs) => if k + len ≤ cs.length then (frzAll ((cs.drop k).take len)).map fun fs => .fz (.sl 1 (fs.map fun x => [x])) else none
      | _ => none
  | .rsl _ _ _ => none
def conAll (H : Nat → Option EO) (ids : List Nat) : List EC → Option (List EC)
  | [] => some []
  | x :: r => (conC H ids x).bind fun y => (conAll H ids r).map (y :: ·)
def conV (H : Nat → Option EO) (ids : List Nat) : EV → Option EV
  | .v (.c x) => (conC H ids x).map fun y => .v (.c y)
  | .v (.agg cs) => (conAll H ids cs).map fun ys => .v (.agg ys)
  | _ => none
def conArgs (H : Nat → Option EO) (ids : List Nat) : List EV → Option (List EV)
  | [] => some []
  | x :: r => (conV H ids x).bind fun y => (conArgs H ids r).map (y :: ·)

/-- The same for the content of what is handed over: nothing is frozen there. -/
def strC (ids : List Nat) : EC → Option EC
  | .fz x => some (.fz x)
  | .fptr cs k => some (.fptr cs k)
  | .ptr o k => (idx ids o).map fun j => .ptr j k
  | .eptr o es i k => (idx ids o).map fun j => .eptr j es i k
  | .clo f caps => (capsIn ids caps).map fun cs => .clo f cs
  | .row o len => (idx ids o).map fun j => .row j len
  | .bsl o k len => (idx ids o).map fun j => .bsl j k len
  | .rsl _ _ _ => none
def strAll (ids : List Nat) : List EC → Option (List EC)
  | [] => some []
  | x :: r => (strC ids x).bind fun y => (strAll ids r).map (y :: ·)
def strO (ids : List Nat) : EO → Option EO
  | .box ty cs => (strAll ids cs).map fun ys => .box ty ys
  | .row ty es xs => some (.row ty es xs)
def objsIn (H : Nat → Option EO) (ids : List Nat) : List Nat → Option (List EO)
  | [] => some []
  | o :: r => (H o).bind fun x => (strO ids x).bind fun y => (objsIn H ids r).map (y :: ·)

/-- The objects of which something is handed over frozen. -/
def fzC (ids : List Nat) : EC → List Nat
  | .row o _ | .bsl o _ _ => if (idx ids o).isSome then [] else [o]
  | _ => []
def fzV (ids : List Nat) : EV → List Nat
  | .v (.c x) => fzC ids x
  | .v (.agg cs) => cs.flatMap (fzC ids)
  | _ => []

/-! ### contracts -/
def ofL (H : List EO) : Nat → Option EO := fun i => H[i]?
def ofO (H : List (Option EO)) : Nat → Option EO := fun i => (H[i]?).getD none

def ECalls (P : Program) (f : FuncId) (args : List EV) (H : List EO) (post : EV → List (Option EO) → Prop) : Prop :=
  ∀ (ρ : Nat → Value) (Φ : Nat → Prop) (w : World) (vals : List Value),
    Rel w H.length ρ Φ (ofL H) ⟨fun o => o < H.length, ρ, Φ, w⟩ → All2 (VV ⟨fun o => o < H.length, ρ, Φ, w⟩) args vals →
    Calls P f vals.toArray w fun e w' => ∃ y H' v ρ' Φ', e = .returned v ∧ post y H' ∧ H.length ≤ H'.length ∧
      VV ⟨fun o => o < H'.length, ρ', Φ', w'⟩ y v ∧ Rel w H.length ρ Φ (ofO H') ⟨fun o => o < H'.length, ρ', Φ', w'⟩

theorem ECalls.mono {P : Program} {f : FuncId} {args : List EV} {H : List EO} {post post' : EV → List (Option EO) → Prop} (h : ECalls P f args H post) (hp : ∀ y H', post y H' → post' y H') : ECalls P f args H post' :=
  fun ρ Φ w vals r a => (h ρ Φ w vals r a).mono fun _ _ ⟨y, H', v, ρ', Φ', he, hpo, rest⟩ => ⟨y, H', v, ρ', Φ', he, hp y H' hpo, rest⟩

/-- How the callee's names read with the caller: what was handed over, and what is new from 'base' on. -/
def rnm (ids : List Nat) (base : Nat) (j : Nat) : Nat := (ids[j]?).getD (base + (j - ids.length))
/-- The caller's objects behind the call. -/
def after (H : Nat → Option EO) (ids : List Nat) (base : Nat) (H' : List (Option EO)) : Nat → Option EO := fun o =>
  match idx ids o with
  | some j => (ofO H' j).map (renO (rnm ids base))
  | none => if base ≤ o ∧ o < base + (H'.length - ids.length) then (ofO H' (ids.length + (o - base))).map (renO (rnm ids base)) else H o

end Go.EW
