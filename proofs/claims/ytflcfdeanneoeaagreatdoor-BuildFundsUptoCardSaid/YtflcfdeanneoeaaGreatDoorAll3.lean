import Derived.Test.YtflcfdeanneoeaaGreatDoorAll2
namespace Go.EW
open Go
def renC (g : Nat → Nat) : EC → EC
  | .fz x => .fz x
  | .ptr o k => .ptr (g o) k
  | .eptr o es i k => .eptr (g o) es i k
  | .row o len => .row (g o) len
  | .bsl o k len => .bsl (g o) k len
  | .rsl o k len => .rsl (g o) k len
  | .fptr cs k => .fptr cs k
  | .clo f caps => .clo f (caps.map fun p => (g p.1, p.2))
  | .mp o => .mp (g o)
def renT (g : Nat → Nat) : TV → TV
  | .c x => .c (renC g x)
  | .agg cs => .agg (cs.map (renC g))
def renV (g : Nat → Nat) : EV → EV
  | .v t => .v (renT g t)
  | .tup ts => .tup (ts.map (renT g))
  | .any => .any
def renO (g : Nat → Nat) : EO → EO
  | .box ty cs => .box ty (cs.map (renC g))
  | .row ty es xs => .row ty es xs
  | .mp rs es => .mp rs es
def refsC : EC → List Nat
  | .fz _ | .fptr _ _ => []
  | .ptr o _ | .eptr o _ _ _ | .row o _ | .bsl o _ _ | .rsl o _ _ | .mp o => [o]
  | .clo _ caps => caps.map (·.1)
def refsT : TV → List Nat
  | .c x => refsC x
  | .agg cs => cs.flatMap refsC
def refsV : EV → List Nat
  | .v t => refsT t
  | .tup ts => ts.flatMap refsT
  | .any => []
def refsO : EO → List Nat
  | .box _ cs => cs.flatMap refsC
  | .row _ _ _ => []
  | .mp _ _ => []
def noSlC : EC → Bool
  | .fz (.sl _ _) => false
  | .fptr _ _ => false
  | _ => true
def noSlF : FV → Bool
  | .sl _ _ => false
  | .lit _ => true
def noSlT : TV → Bool
  | .c x => noSlC x
  | .agg cs => cs.all noSlC
def noSlV : EV → Bool
  | .v t => noSlT t
  | .tup ts => ts.all noSlT
  | .any => true
def noSlO : EO → Bool
  | .box _ cs => cs.all noSlC
  | .row _ _ xs => xs.all fun x => x.all noSlF
  | .mp _ _ => true
structure RenCx (C Y : Cx) (g : Nat → Nat) : Prop where
  U : ∀ o, C.U o → Y.U (g o)
  ρ : ∀ o, C.U o → Y.ρ (g o) = C.ρ o
  w : Y.w = C.w
theorem ren_vr {C Y : Cx} {g : Nat → Nat} (h : RenCx C Y g) {x : EC} {v : Value} (hf : noSlC x = true ∨ ∀ b, C.Φ b → Y.Φ b) (k : VR C x v) : VR Y (renC g x) v := by
  cases x with
  | fz x =>
    rcases hf with hf | hf
    · cases x with
      | lit u => cases k; exact FR.lit _ (by assumption)
      | sl es xs => simp [noSlC] at hf
    · exact FR.stable (fun b _ => by rw [h.w]) hf k
  | ptr o i => exact ⟨h.U o k.1, by rw [h.ρ o k.1]; exact k.2⟩
  | eptr o es i j => exact ⟨h.U o k.1, by rw [h.ρ o k.1]; exact k.2⟩
  | row o len => exact ⟨h.U o k.1, by rw [h.ρ o k.1]; exact k.2⟩
  | bsl o i len => exact ⟨h.U o k.1, by rw [h.ρ o k.1]; exact k.2⟩
  | rsl o i len => exact ⟨h.U o k.1, by rw [h.ρ o k.1]; exact k.2⟩
  | fptr cs i =>
    rcases hf with hf | hf
    · simp [noSlC] at hf
    · obtain ⟨b, off, hb, hv, vs, hl, hc, hfr⟩ := k
      exact ⟨b, off, hf b hb, hv, vs, hl, fun j u hu => by rw [h.w]; exact hc j u hu, fun j x u hx hu => FR.stable (fun b _ => by rw [h.w]) hf (hfr j x u hx hu)⟩
  | clo f caps =>
    obtain ⟨vs, hv, ha⟩ := k
    refine ⟨vs, hv, by rw [List.length_map]; exact ha.1, ?_⟩
    intro i p u hp hu
    rw [List.getElem?_map] at hp
    obtain ⟨q, hq, rfl⟩ := map_some' hp
    obtain ⟨h1, h2⟩ := ha.2 i q u hq hu
    exact ⟨h.U _ h1, by rw [h.ρ _ h1]; exact h2⟩
  | mp o => exact ⟨h.U o k.1, by rw [h.ρ o k.1]; exact k.2⟩
theorem ren_all {C Y : Cx} {g : Nat → Nat} (h : RenCx C Y g) {cs : List EC} {vs : List Value} (hf : cs.all noSlC = true ∨ ∀ b, C.Φ b → Y.Φ b) (k : All2 (VR C) cs vs) : All2 (VR Y) (cs.map (renC g)) vs := by
  refine ⟨by rw [List.length_map]; exact k.1, ?_⟩
  intro i x y hx hy
  rw [List.getElem?_map] at hx
  obtain ⟨z, hz, rfl⟩ := map_some' hx
  exact ren_vr h (hf.imp (fun h => (List.all_eq_true.1 h) z (List.mem_of_getElem? hz)) id) (k.2 i z y hz hy)
theorem ren_vt {C Y : Cx} {g : Nat → Nat} (h : RenCx C Y g) {x : TV} {v : Value} (hf : noSlT x = true ∨ ∀ b, C.Φ b → Y.Φ b) (k : VT C x v) : VT Y (renT g x) v := by
  cases x with
  | c x => exact ren_vr h hf k
  | agg cs => obtain ⟨vs, hv, ha⟩ := k; exact ⟨vs, hv, ren_all h hf ha⟩
theorem ren_vv {C Y : Cx} {g : Nat → Nat} (h : RenCx C Y g) {x : EV} {v : Value} (hf : noSlV x = true ∨ ∀ b, C.Φ b → Y.Φ b) (k : VV C x v) : VV Y (renV g x) v := by
  cases x with
  | v x => exact ren_vt h hf k
  | tup ts =>
    obtain ⟨vs, hv, ha⟩ := k
    refine ⟨vs, hv, by rw [List.length_map]; exact ha.1, ?_⟩
    intro i x y hx hy
    rw [List.getElem?_map] at hx
    obtain ⟨z, hz, rfl⟩ := map_some' hx
    exact ren_vt h (hf.imp (fun h => (List.all_eq_true.1 h) z (List.mem_of_getElem? hz)) id) (ha.2 i z y hz hy)
  | any => trivial
theorem FR_noSl {Φ Φ' : Nat → Prop} {w w' : World} {x : FV} {v : Value} (h : noSlF x = true) (k : FR Φ w x v) : FR Φ' w' x v := by
  cases x with
  | lit u => cases k; exact FR.lit _ (by assumption)
  | sl es xs => simp [noSlF] at h
theorem ren_or {C Y : Cx} {g : Nat → Nat} (h : RenCx C Y g) {x : EO} {v : Value} (hf : noSlO x = true ∨ ∀ b, C.Φ b → Y.Φ b) (k : OR C x v) : OR Y (renO g x) v := by
  cases x with
  | box ty cs =>
    obtain ⟨b, c, hv, hh, ha⟩ := k
    exact ⟨b, c, hv, by rw [h.w]; exact hh, ren_all h hf ha⟩
  | row ty es xs =>
    obtain ⟨h0, hl, flat, ho, ha⟩ := k
    refine ⟨h0, hl, flat, by rw [h.w]; exact ho, ha.1, ?_⟩
    intro i x y hx hy
    rcases hf with hf | hf
    · refine FR_noSl ?_ (ha.2 i x y hx hy)
      have hx' := List.mem_of_getElem? hx
      obtain ⟨l, hl1, hl2⟩ := List.mem_flatten.1 hx'
      have := (List.all_eq_true.1 hf) l hl1
      exact (List.all_eq_true.1 this) x hl2
    · exact FR.stable (fun b _ => by rw [h.w]) hf (ha.2 i x y hx hy)
  | mp rs ents =>
    obtain ⟨h0, h1, b, es, clock, hv, hh, he⟩ := k
    exact ⟨h0, h1, b, es, clock, hv, by rw [h.w]; exact hh, he⟩
theorem refs_vr {X : Cx} {x : EC} {v : Value} (k : VR X x v) : ∀ o ∈ refsC x, X.U o := by
  cases x with
  | fz x => simp [refsC]
  | ptr o i => simpa [refsC] using k.1
  | eptr o es i j => simpa [refsC] using k.1
  | row o len => simpa [refsC] using k.1
  | bsl o i len => simpa [refsC] using k.1
  | rsl o i len => simpa [refsC] using k.1
  | fptr cs i => simp [refsC]
  | clo f caps =>
    obtain ⟨vs, _, ha⟩ := k
    intro o ho
    simp only [refsC, List.mem_map] at ho
    obtain ⟨p, hp, rfl⟩ := ho
    obtain ⟨j, hj⟩ := List.getElem?_of_mem hp
    obtain ⟨u, _, hu⟩ := ha.get hj
    exact hu.1
  | mp o => simpa [refsC] using k.1
theorem refs_all {X : Cx} {cs : List EC} {vs : List Value} (k : All2 (VR X) cs vs) : ∀ o ∈ cs.flatMap refsC, X.U o := by
  intro o ho
  obtain ⟨x, hx, hxo⟩ := List.mem_flatMap.1 ho
  obtain ⟨j, hj⟩ := List.getElem?_of_mem hx
  obtain ⟨u, _, hu⟩ := k.get hj
  exact refs_vr hu o hxo
theorem refs_vt {X : Cx} {x : TV} {v : Value} (k : VT X x v) : ∀ o ∈ refsT x, X.U o := by
  cases x with
  | c x => exact refs_vr k
  | agg cs => obtain ⟨vs, _, ha⟩ := k; exact refs_all ha
theorem refs_vv {X : Cx} {x : EV} {v : Value} (k : VV X x v) : ∀ o ∈ refsV x, X.U o := by
  cases x with
  | v x => exact refs_vt k
  | tup ts =>
    obtain ⟨vs, _, ha⟩ := k
    intro o ho
    obtain ⟨x, hx, hxo⟩ := List.mem_flatMap.1 ho
    obtain ⟨j, hj⟩ := List.getElem?_of_mem hx
    obtain ⟨u, _, hu⟩ := ha.get hj
    exact refs_vt hu o hxo
  | any => simp [refsV]
theorem refs_or {X : Cx} {x : EO} {v : Value} (k : OR X x v) : ∀ o ∈ refsO x, X.U o := by
  cases x with
  | box ty cs => obtain ⟨b, c, _, _, ha⟩ := k; exact refs_all ha
  | row ty es xs => simp [refsO]
  | mp rs es => simp [refsO]
def idx : List Nat → Nat → Option Nat
  | [], _ => none
  | a :: r, o => if a = o then some 0 else (idx r o).map (· + 1)
theorem idx_some : ∀ {l : List Nat} {o j : Nat}, idx l o = some j → l[j]? = some o
  | [], o, j, h => by simp [idx] at h
  | a :: r, o, j, h => by
    unfold idx at h
    split at h
    · rename_i e; subst e; obtain rfl := Option.some.inj h; rfl
    · obtain ⟨k, hk, rfl⟩ := map_some' h
      simpa using idx_some hk
theorem idx_none : ∀ {l : List Nat} {o : Nat}, idx l o = none → o ∉ l
  | [], o, _ => by simp
  | a :: r, o, h => by
    unfold idx at h
    split at h
    · simp at h
    · rename_i e
      simp only [Option.map_eq_none_iff] at h
      simp only [List.mem_cons, not_or]
      exact ⟨fun e' => e e'.symm, idx_none h⟩
def capsIn (ids : List Nat) : List (Nat × Nat) → Option (List (Nat × Nat))
  | [] => some []
  | (o, k) :: r => (idx ids o).bind fun j => (capsIn ids r).map ((j, k) :: ·)
def conC (H : Nat → Option EO) (ids : List Nat) : EC → Option EC
  | .fz x => some (.fz x)
  | .fptr cs k => some (.fptr cs k)
  | .ptr o k => (idx ids o).map fun j => .ptr j k
  | .eptr o es i k => (idx ids o).map fun j => .eptr j es i k
  | .clo f caps => (capsIn ids caps).map fun cs => .clo f cs
  | .row o len => match idx ids o with
    | some j => some (.row j len)
    | none => match H o with
      | some (.row _ es xs) => some (.fz (.sl es (xs.take len)))
      | _ => none
  | .bsl o k len => match idx ids o with
    | some j => some (.bsl j k len)
    | none => match H o with
      | some (.box _ cs) => if k + len ≤ cs.length then (frzAll ((cs.drop k).take len)).map fun fs => .fz (.sl 1 (fs.map fun x => [x])) else none
      | _ => none
  | .rsl _ _ _ => none
  | .mp o => (idx ids o).map fun j => .mp j
def conAll (H : Nat → Option EO) (ids : List Nat) : List EC → Option (List EC)
  | [] => some []
  | x :: r => (conC H ids x).bind fun y => (conAll H ids r).map (y :: ·)
def conV (H : Nat → Option EO) (ids : List Nat) : EV → Option EV
  | .v (.c x) => (conC H ids x).map fun y => .v (.c y)
  | .v (.agg cs) => (conAll H ids cs).map fun ys => .v (.agg ys)
  | _ => none
def conArgs (H : Nat → Option EO) (ids : List Nat) : List EV → Option (List EV)
  | [] => some []
  | x :: r => (conV H ids x).bind fun y => (conArgs H ids r).map (y :: ·)
def strC (ids : List Nat) : EC → Option EC
  | .fz x => some (.fz x)
  | .fptr cs k => some (.fptr cs k)
  | .ptr o k => (idx ids o).map fun j => .ptr j k
  | .eptr o es i k => (idx ids o).map fun j => .eptr j es i k
  | .clo f caps => (capsIn ids caps).map fun cs => .clo f cs
  | .row o len => (idx ids o).map fun j => .row j len
  | .bsl o k len => (idx ids o).map fun j => .bsl j k len
  | .rsl _ _ _ => none
  | .mp o => (idx ids o).map fun j => .mp j
def strAll (ids : List Nat) : List EC → Option (List EC)
  | [] => some []
  | x :: r => (strC ids x).bind fun y => (strAll ids r).map (y :: ·)
def strO (ids : List Nat) : EO → Option EO
  | .box ty cs => (strAll ids cs).map fun ys => .box ty ys
  | .row ty es xs => some (.row ty es xs)
  | .mp rs es => some (.mp rs es)
def objsIn (H : Nat → Option EO) (ids : List Nat) : List Nat → Option (List EO)
  | [] => some []
  | o :: r => (H o).bind fun x => (strO ids x).bind fun y => (objsIn H ids r).map (y :: ·)
def fzC (ids : List Nat) : EC → List Nat
  | .row o _ | .bsl o _ _ => if (idx ids o).isSome then [] else [o]
  | _ => []
def fzV (ids : List Nat) : EV → List Nat
  | .v (.c x) => fzC ids x
  | .v (.agg cs) => cs.flatMap (fzC ids)
  | _ => []
def ofL (H : List EO) : Nat → Option EO := fun i => H[i]?
def ofO (H : List (Option EO)) : Nat → Option EO := fun i => (H[i]?).getD none
def ECalls (P : Program) (f : FuncId) (args : List EV) (H : List EO) (post : EV → List (Option EO) → Prop) : Prop :=
  ∀ (ρ : Nat → Value) (Φ : Nat → Prop) (w : World) (vals : List Value),
    Rel w H.length ρ Φ (ofL H) ⟨fun o => o < H.length, ρ, Φ, w⟩ → All2 (VV ⟨fun o => o < H.length, ρ, Φ, w⟩) args vals →
    Calls P f vals.toArray w fun e w' => ∃ y H' v ρ' Φ', e = .returned v ∧ post y H' ∧ H.length ≤ H'.length ∧
      VV ⟨fun o => o < H'.length, ρ', Φ', w'⟩ y v ∧ Rel w H.length ρ Φ (ofO H') ⟨fun o => o < H'.length, ρ', Φ', w'⟩
theorem ECalls.mono {P : Program} {f : FuncId} {args : List EV} {H : List EO} {post post' : EV → List (Option EO) → Prop} (h : ECalls P f args H post) (hp : ∀ y H', post y H' → post' y H') : ECalls P f args H post' :=
  fun ρ Φ w vals r a => (h ρ Φ w vals r a).mono fun _ _ ⟨y, H', v, ρ', Φ', he, hpo, rest⟩ => ⟨y, H', v, ρ', Φ', he, hp y H' hpo, rest⟩
def rnm (ids : List Nat) (base : Nat) (j : Nat) : Nat := (ids[j]?).getD (base + (j - ids.length))
def after (H : Nat → Option EO) (ids : List Nat) (base : Nat) (H' : List (Option EO)) : Nat → Option EO := fun o =>
  match idx ids o with
  | some j => (ofO H' j).map (renO (rnm ids base))
  | none => if base ≤ o ∧ o < base + (H'.length - ids.length) then (ofO H' (ids.length + (o - base))).map (renO (rnm ids base)) else H o
end Go.EW
namespace Go.EW
open Go
section
variable {P : Program} {w0 : World} {m : Nat} {ρ0 : Nat → Value} {Φ0 : Nat → Prop} {H : Nat → Option EO} {X : Cx} {ids : List Nat}
theorem lt_len {α : Type} {l : List α} {i : Nat} {x : α} (h : l[i]? = some x) : i < l.length := lt_of_get h
structure Into (X C : Cx) (ids : List Nat) : Prop where
  U : ∀ j, j < ids.length → C.U j
  ρ : ∀ (j o : Nat), ids[j]? = some o → C.ρ j = X.ρ o
  Φ : ∀ b, X.Φ b → C.Φ b
  w : C.w = X.w
theorem capsIn_spec {C : Cx} (h : Into X C ids) : ∀ {caps cs : List (Nat × Nat)} {vs : List Value}, capsIn ids caps = some cs →
    All2 (fun (p : Nat × Nat) u => X.U p.1 ∧ ∃ b, X.ρ p.1 = .pointer (some ⟨b, 0, none⟩) ∧ u = .pointer (some ⟨b, p.2, none⟩)) caps vs →
    All2 (fun (p : Nat × Nat) u => C.U p.1 ∧ ∃ b, C.ρ p.1 = .pointer (some ⟨b, 0, none⟩) ∧ u = .pointer (some ⟨b, p.2, none⟩)) cs vs
  | [], cs, vs, hc, ha => by
    simp [capsIn] at hc; subst hc
    obtain rfl := ha.nil_left
    exact All2.nil
  | (o, k) :: r, cs, vs, hc, ha => by
    obtain ⟨u, us, rfl, h1, h2⟩ := ha.cons_left
    simp only [capsIn] at hc
    replace hc := bind_some' hc; obtain ⟨j, hj, hc⟩ := hc
    replace hc := map_some' hc; obtain ⟨cs', hcs, rfl⟩ := hc
    have hj' := idx_some hj
    exact All2.cons ⟨h.U j (lt_len hj'), by rw [h.ρ j o hj']; exact h1.2⟩ (capsIn_spec h hcs h2)
theorem strC_spec {C : Cx} (h : Into X C ids) {x x' : EC} {v : Value} (hs : strC ids x = some x') (k : VR X x v) : VR C x' v := by
  cases x with
  | fz x => simp [strC] at hs; subst hs; exact FR.stable (fun b _ => by rw [h.w]) h.Φ k
  | fptr cs i =>
    simp [strC] at hs; subst hs
    obtain ⟨b, off, hb, hv, vs, hl, hc, hfr⟩ := k
    exact ⟨b, off, h.Φ b hb, hv, vs, hl, fun j u hu => by rw [h.w]; exact hc j u hu, fun j x u hx hu => FR.stable (fun b _ => by rw [h.w]) h.Φ (hfr j x u hx hu)⟩
  | ptr o i =>
    replace hs := map_some' hs; obtain ⟨j, hj, rfl⟩ := hs
    have hj' := idx_some hj
    exact ⟨h.U j (lt_len hj'), by rw [h.ρ j o hj']; exact k.2⟩
  | eptr o es i i' =>
    replace hs := map_some' hs; obtain ⟨j, hj, rfl⟩ := hs
    have hj' := idx_some hj
    exact ⟨h.U j (lt_len hj'), by rw [h.ρ j o hj']; exact k.2⟩
  | row o len =>
    replace hs := map_some' hs; obtain ⟨j, hj, rfl⟩ := hs
    have hj' := idx_some hj
    exact ⟨h.U j (lt_len hj'), by rw [h.ρ j o hj']; exact k.2⟩
  | bsl o i len =>
    replace hs := map_some' hs; obtain ⟨j, hj, rfl⟩ := hs
    have hj' := idx_some hj
    exact ⟨h.U j (lt_len hj'), by rw [h.ρ j o hj']; exact k.2⟩
  | rsl o i len => simp [strC] at hs
  | clo f caps =>
    replace hs := map_some' hs; obtain ⟨cs, hcs, rfl⟩ := hs
    obtain ⟨vs, hv, ha⟩ := k
    exact ⟨vs, hv, capsIn_spec h hcs ha⟩
  | mp o =>
    replace hs := map_some' hs; obtain ⟨j, hj, rfl⟩ := hs
    have hj' := idx_some hj
    exact ⟨h.U j (lt_len hj'), by rw [h.ρ j o hj']; exact k.2⟩
theorem strAll_spec {C : Cx} (h : Into X C ids) : ∀ {cs cs' : List EC} {vs : List Value}, strAll ids cs = some cs' → All2 (VR X) cs vs → All2 (VR C) cs' vs
  | [], cs', vs, hs, ha => by
    simp [strAll] at hs; subst hs
    obtain rfl := ha.nil_left
    exact All2.nil
  | x :: r, cs', vs, hs, ha => by
    obtain ⟨u, us, rfl, h1, h2⟩ := ha.cons_left
    simp only [strAll] at hs
    replace hs := bind_some' hs; obtain ⟨y, hy, hs⟩ := hs
    replace hs := map_some' hs; obtain ⟨ys, hys, rfl⟩ := hs
    exact All2.cons (strC_spec h hy h1) (strAll_spec h hys h2)
theorem strO_spec {C : Cx} (h : Into X C ids) {x x' : EO} {v : Value} (hs : strO ids x = some x') (k : OR X x v) : OR C x' v := by
  cases x with
  | box ty cs =>
    replace hs := map_some' hs; obtain ⟨ys, hys, rfl⟩ := hs
    obtain ⟨b, c, hv, hh, ha⟩ := k
    exact ⟨b, c, hv, by rw [h.w]; exact hh, strAll_spec h hys ha⟩
  | row ty es xs =>
    simp [strO] at hs; subst hs
    obtain ⟨h0, hl, flat, ho, ha⟩ := k
    exact ⟨h0, hl, flat, by rw [h.w]; exact ho, ha.mono fun _ _ => FR.stable (fun b _ => by rw [h.w]) h.Φ⟩
  | mp rs es =>
    simp [strO] at hs; subst hs
    obtain ⟨h0, h1, b, es, clock, hv, hh, he⟩ := k
    exact ⟨h0, h1, b, es, clock, hv, by rw [h.w]; exact hh, he⟩
theorem freeze_fr (r : Rel w0 m ρ0 Φ0 H X) {C : Cx} (hΦ : ∀ b, X.Φ b → C.Φ b) (hw : C.w = X.w) {es : Nat} (h0 : 0 < es) {c : EC} {v : Value} (hv : VR X c v) {xs : List (List FV)} (h : elems2 H es c = some xs)
    (hblk : ∀ b, hb v = some b → xs ≠ [] → C.Φ b) : FR C.Φ C.w (.sl es xs) v := by
  obtain ⟨hl, ad, cap, vs, rfl, hcap, hall, hcell⟩ := elems2_spec r hv h
  by_cases hne : xs = []
  · subst hne
    exact .emp es ad cap
  · obtain ⟨b, off, rfl, hc⟩ := hcell hne
    refine .sl es xs b off cap vs (hblk b rfl hne) h0 hl (by rw [← hall.1, flatten_length hl]) hcap ?_ ?_
    · intro j u hu; rw [hw]; exact hc j u hu
    · intro j x u hx hu
      exact FR.stable (fun b _ => by rw [hw]) hΦ (hall.2 j x u hx hu)
theorem conC_spec (r : Rel w0 m ρ0 Φ0 H X) {C : Cx} (h : Into X C ids) {x x' : EC} {v : Value} (hs : conC H ids x = some x') (hfz : ∀ o ∈ fzC ids x, ∀ y b, H o = some y → hb (X.ρ o) = some b → C.Φ b) (k : VR X x v) : VR C x' v := by
  cases x with
  | fz x => exact strC_spec h (x := .fz x) hs k
  | fptr cs i => exact strC_spec h (x := .fptr cs i) hs k
  | ptr o i => exact strC_spec h (x := .ptr o i) hs k
  | eptr o es i i' => exact strC_spec h (x := .eptr o es i i') hs k
  | clo f caps => exact strC_spec h (x := .clo f caps) hs k
  | mp o => exact strC_spec h (x := .mp o) hs k
  | row o len =>
    simp only [conC] at hs
    split at hs
    · rename_i j hj
      refine strC_spec h (x := .row o len) ?_ k
      simp only [strC, hj, Option.map_some]
      exact hs
    · rename_i hj
      split at hs
      · rename_i ty es xs hH
        obtain rfl := Option.some.inj hs
        have hor := (r.obj o _ hH).2
        refine freeze_fr r h.Φ h.w hor.1 k (by simp [elems2, elemsOf, hH]) ?_
        intro b hb' _
        refine hfz o (by simp [fzC, hj]) _ b hH ?_
        obtain ⟨_, a, n, cap, hρ, _, _, rfl⟩ := k
        rw [hρ]
        cases a <;> simp_all [hb]
      · simp at hs
  | bsl o i len =>
    simp only [conC] at hs
    split at hs
    · rename_i j hj
      refine strC_spec h (x := .bsl o i len) ?_ k
      simp only [strC, hj, Option.map_some]
      exact hs
    · rename_i hj
      split at hs
      · rename_i ty cs hH
        split at hs
        · rename_i hle
          replace hs := map_some' hs; obtain ⟨fs, hfs, rfl⟩ := hs
          refine freeze_fr r h.Φ h.w (by omega) k (by simp [elems2, hH, hle, hfs]) ?_
          intro b hb' _
          refine hfz o (by simp [fzC, hj]) _ b hH ?_
          obtain ⟨_, b', hρ, cap, _, rfl⟩ := k
          rw [hρ]
          simp [hb] at hb' ⊢
          exact hb'
        · simp at hs
      · simp at hs
  | rsl o i len => simp [conC] at hs
theorem conAll_spec (r : Rel w0 m ρ0 Φ0 H X) {C : Cx} (h : Into X C ids) : ∀ {cs cs' : List EC} {vs : List Value}, conAll H ids cs = some cs' → (∀ o ∈ cs.flatMap (fzC ids), ∀ y b, H o = some y → hb (X.ρ o) = some b → C.Φ b) → All2 (VR X) cs vs → All2 (VR C) cs' vs
  | [], cs', vs, hs, _, ha => by
    simp [conAll] at hs; subst hs
    obtain rfl := ha.nil_left
    exact All2.nil
  | x :: r', cs', vs, hs, hfz, ha => by
    obtain ⟨u, us, rfl, h1, h2⟩ := ha.cons_left
    simp only [conAll] at hs
    replace hs := bind_some' hs; obtain ⟨y, hy, hs⟩ := hs
    replace hs := map_some' hs; obtain ⟨ys, hys, rfl⟩ := hs
    exact All2.cons (conC_spec r h hy (fun o ho => hfz o (by simp [ho])) h1) (conAll_spec r h hys (fun o ho => hfz o (by
      rw [List.flatMap_cons]
      exact List.mem_append_right _ ho)) h2)
theorem conV_spec (r : Rel w0 m ρ0 Φ0 H X) {C : Cx} (h : Into X C ids) {x x' : EV} {v : Value} (hs : conV H ids x = some x') (hfz : ∀ o ∈ fzV ids x, ∀ y b, H o = some y → hb (X.ρ o) = some b → C.Φ b) (k : VV X x v) : VV C x' v := by
  unfold conV at hs
  split at hs
  · replace hs := map_some' hs; obtain ⟨y, hy, rfl⟩ := hs
    exact conC_spec r h hy hfz k
  · replace hs := map_some' hs; obtain ⟨ys, hys, rfl⟩ := hs
    obtain ⟨vs, hv, ha⟩ := k
    exact ⟨vs, hv, conAll_spec r h hys hfz ha⟩
  · simp at hs
theorem conArgs_spec (r : Rel w0 m ρ0 Φ0 H X) {C : Cx} (h : Into X C ids) : ∀ {xs xs' : List EV} {vs : List Value}, conArgs H ids xs = some xs' → (∀ o ∈ xs.flatMap (fzV ids), ∀ y b, H o = some y → hb (X.ρ o) = some b → C.Φ b) → All2 (VV X) xs vs → All2 (VV C) xs' vs
  | [], cs', vs, hs, _, ha => by
    simp [conArgs] at hs; subst hs
    obtain rfl := ha.nil_left
    exact All2.nil
  | x :: r', cs', vs, hs, hfz, ha => by
    obtain ⟨u, us, rfl, h1, h2⟩ := ha.cons_left
    simp only [conArgs] at hs
    replace hs := bind_some' hs; obtain ⟨y, hy, hs⟩ := hs
    replace hs := map_some' hs; obtain ⟨ys, hys, rfl⟩ := hs
    exact All2.cons (conV_spec r h hy (fun o ho => hfz o (by rw [List.flatMap_cons]; exact List.mem_append_left _ ho)) h1) (conArgs_spec r h hys (fun o ho => hfz o (by
      rw [List.flatMap_cons]
      exact List.mem_append_right _ ho)) h2)
theorem objsIn_spec : ∀ {l : List Nat} {Hc : List EO}, objsIn H ids l = some Hc → Hc.length = l.length ∧ ∀ (j o : Nat), l[j]? = some o → ∃ x y, H o = some x ∧ strO ids x = some y ∧ Hc[j]? = some y
  | [], Hc, h => by simp [objsIn] at h; subst h; simp
  | o :: r, Hc, h => by
    simp only [objsIn] at h
    replace h := bind_some' h; obtain ⟨x, hx, h⟩ := h
    replace h := bind_some' h; obtain ⟨y, hy, h⟩ := h
    replace h := map_some' h; obtain ⟨ys, hys, rfl⟩ := h
    obtain ⟨h1, h2⟩ := objsIn_spec hys
    refine ⟨by simp [h1], ?_⟩
    intro j o' hj
    cases j with
    | zero => simp at hj; subst hj; exact ⟨x, y, hx, hy, rfl⟩
    | succ j => simpa using h2 j o' (by simpa using hj)
theorem fz_notin {ids : List Nat} {x : EV} {o : Nat} (h : o ∈ fzV ids x) : o ∉ ids := by
  have key : ∀ c, o ∈ fzC ids c → o ∉ ids := by
    intro c hc
    unfold fzC at hc
    split at hc
    · split at hc
      · simp at hc
      · rename_i hn
        simp at hc; subst hc
        exact idx_none (by simpa using hn)
    · split at hc
      · simp at hc
      · rename_i hn
        simp at hc; subst hc
        exact idx_none (by simpa using hn)
    · simp at hc
  unfold fzV at h
  split at h
  · exact key _ h
  · obtain ⟨c, _, hc⟩ := List.mem_flatMap.1 h
    exact key c hc
  · simp at h
theorem call_sound {f : FuncId} {args args' : List EV} {Hc : List EO} {post : EV → List (Option EO) → Prop} {base : Nat} (hE : ECalls P f args' Hc post)
    (hcon : conArgs H ids args = some args') (hin : objsIn H ids ids = some Hc) (hnd : ids.Nodup) (r : Rel w0 m ρ0 Φ0 H X) {vals : List Value} (hv : All2 (VV X) args vals)
    (hfree : ∀ o, base ≤ o → o < base + 16 → ¬ X.U o) (hm : m ≤ base)
    (hpost : ∀ y H', post y H' → (args.flatMap (fzV ids) = [] ∨ (noSlV y = true ∧ ∀ x, some x ∈ H' → noSlO x = true)) ∧ H'.length ≤ ids.length + 16) :
    Calls P f vals.toArray X.w fun e w' => ∃ y H' v X', e = .returned v ∧ post y H' ∧ X'.w = w' ∧ Rel w0 m ρ0 Φ0 (after H ids base H') X' ∧ Later X X' ∧
      (∀ o, X'.U o ↔ X.U o ∨ (base ≤ o ∧ o < base + (H'.length - ids.length))) ∧ VV X' (renV (rnm ids base) y) v := by
  obtain ⟨hlen, hobj⟩ := objsIn_spec hin
  -- the callee's context
  let ρc : Nat → Value := fun j => X.ρ ((ids[j]?).getD 0)
  let Φc : Nat → Prop := fun b => X.Φ b ∨ ∃ o ∈ args.flatMap (fzV ids), ∃ x, H o = some x ∧ hb (X.ρ o) = some b
  let C : Cx := ⟨fun o => o < Hc.length, ρc, Φc, X.w⟩
  have hinto : Into X C ids := ⟨fun j hj => by show j < Hc.length; omega, fun j o hj => by show X.ρ _ = _; rw [hj]; rfl, fun b hb => .inl hb, rfl⟩
  have hfzn : ∀ o ∈ args.flatMap (fzV ids), o ∉ ids := by
    intro o ho
    obtain ⟨x, _, hx⟩ := List.mem_flatMap.1 ho
    exact fz_notin hx
  have hget : ∀ (j : Nat) (y : EO), Hc[j]? = some y → ∃ o x, ids[j]? = some o ∧ H o = some x ∧ strO ids x = some y := by
    intro j y hj
    have hj' : j < ids.length := by rw [← hlen]; exact lt_len hj
    obtain ⟨x, y', h1, h2, h3⟩ := hobj j ids[j] (by simp [hj'])
    obtain rfl := Option.some.inj (h3.symm.trans hj)
    exact ⟨ids[j], x, by simp [hj'], h1, h2⟩
  have hρc : ∀ (j o : Nat), ids[j]? = some o → ρc j = X.ρ o := hinto.ρ
  have hlive : ∀ o, o ∈ ids → ∃ x, H o = some x := by
    intro o ho
    obtain ⟨j, hj⟩ := List.getElem?_of_mem ho
    obtain ⟨x, _, h1, _⟩ := hobj j o hj
    exact ⟨x, h1⟩
  have hentry : Rel X.w Hc.length ρc Φc (ofL Hc) C := by
    refine ⟨rfl, rfl, rfl, Nat.le_refl _, fun _ _ _ => rfl, fun _ _ => rfl, ?_, ?_, ?_, ?_, ?_, fun b h => .inl h, r.glob.mono (fun b hb => .inl hb) (fun _ _ => rfl)⟩
    · intro j y hj
      obtain ⟨o, x, h1, h2, h3⟩ := hget j y hj
      refine ⟨lt_len hj, ?_⟩
      show OR C y (ρc j)
      rw [hρc j o h1]
      exact strO_spec hinto h3 (r.obj o x h2).2
    · intro j j' y y' b hj hj' e1 e2
      obtain ⟨o, x, h1, h2, _⟩ := hget j y hj
      obtain ⟨o', x', h1', h2', _⟩ := hget j' y' hj'
      have e1' : hb (X.ρ o) = some b := by rw [← hρc j o h1]; exact e1
      have e2' : hb (X.ρ o') = some b := by rw [← hρc j' o' h1']; exact e2
      have := r.inj o o' x x' b h2 h2' e1' e2'
      subst this
      exact (List.getElem?_inj (lt_len h1) hnd).1 (h1.trans h1'.symm)
    · intro j y b hj e1
      exact .inr ⟨j, lt_len hj, e1⟩
    · intro j y b hj e1 hΦ
      obtain ⟨o, x, h1, h2, _⟩ := hget j y hj
      have e1' : hb (X.ρ o) = some b := by rw [← hρc j o h1]; exact e1
      rcases hΦ with hΦ | ⟨o', ho', x', hx', hb'⟩
      · exact r.dis o x b h2 e1' hΦ
      · have := r.inj o o' x x' b h2 hx' e1' hb'
        subst this
        exact hfzn o ho' (List.mem_of_getElem? h1)
    · intro b hΦ
      rcases hΦ with hΦ | ⟨o', ho', x', hx', hb'⟩
      · exact r.fro b hΦ
      · exact ((r.obj o' x' hx').2).lt hb'
  have hargs : All2 (VV C) args' vals := conArgs_spec r hinto hcon (fun o ho y b hy hb' => .inr ⟨o, ho, y, hy, hb'⟩) hv
  refine (hE ρc Φc X.w vals hentry hargs).mono ?_
  rintro e w' ⟨y, H', v, ρ', Φ', rfl, hpo, hle, hvv, hR⟩
  obtain ⟨hal, hmax⟩ := hpost y H' hpo
  -- the caller's context behind the call
  let X' : Cx := ⟨fun o => X.U o ∨ (base ≤ o ∧ o < base + (H'.length - ids.length)), fun o => if base ≤ o ∧ o < base + (H'.length - ids.length) then ρ' (ids.length + (o - base)) else X.ρ o,
    fun b => X.Φ b ∨ (args.flatMap (fzV ids) = [] ∧ Φ' b), w'⟩
  have hnr : ∀ o, X.U o → ¬ (base ≤ o ∧ o < base + (H'.length - ids.length)) := by
    intro o hu ⟨h1, h2⟩
    exact hfree o h1 (by omega) hu
  have hρX : ∀ o, X.U o → X'.ρ o = X.ρ o := fun o hu => if_neg (hnr o hu)
  have hρ'j : ∀ (j o : Nat), ids[j]? = some o → ρ' j = X.ρ o := by
    intro j o hj
    rw [← hρc j o hj]
    exact hR.pin j (by rw [hlen]; exact lt_len hj)
  have hidU : ∀ o, o ∈ ids → X.U o := fun o ho => let ⟨x, hx⟩ := hlive o ho; (r.obj o x hx).1
  have hren : RenCx ⟨fun o => o < H'.length, ρ', Φ', w'⟩ X' (rnm ids base) := by
    refine ⟨?_, ?_, rfl⟩
    · intro j hj
      have hj : j < H'.length := hj
      unfold rnm
      cases hi : ids[j]? with
      | some o => exact .inl (hidU o (List.mem_of_getElem? hi))
      | none =>
        have := List.getElem?_eq_none_iff.1 hi
        refine .inr ⟨by simp, ?_⟩
        simp only [Option.getD_none]
        omega
    · intro j hj
      have hj : j < H'.length := hj
      unfold rnm
      cases hi : ids[j]? with
      | some o =>
        show X'.ρ o = ρ' j
        rw [hρX o (hidU o (List.mem_of_getElem? hi)), hρ'j j o hi]
      | none =>
        have := List.getElem?_eq_none_iff.1 hi
        show (if base ≤ base + (j - ids.length) ∧ base + (j - ids.length) < base + (H'.length - ids.length) then ρ' (ids.length + (base + (j - ids.length) - base)) else X.ρ _) = ρ' j
        rw [if_pos ⟨by omega, by omega⟩]
        congr 1
        omega
  have hΦs : args.flatMap (fzV ids) = [] → ∀ b, Φ' b → X'.Φ b := fun h b hb => .inr ⟨h, hb⟩
  -- the live objects behind the call
  have hcls : ∀ o x, after H ids base H' o = some x → (∃ j x0, j < H'.length ∧ o = rnm ids base j ∧ ofO H' j = some x0 ∧ x = renO (rnm ids base) x0) ∨ (H o = some x ∧ o ∉ ids ∧ X.U o) := by
    intro o x ho
    unfold after at ho
    split at ho
    · rename_i j hj
      replace ho := map_some' ho; obtain ⟨x0, h1, rfl⟩ := ho
      have hj' := idx_some hj
      refine .inl ⟨j, x0, ?_, ?_, h1, rfl⟩
      · have := lt_len hj'; omega
      · unfold rnm; rw [hj']; rfl
    · rename_i hj
      split at ho
      · rename_i hrg
        replace ho := map_some' ho; obtain ⟨x0, h1, rfl⟩ := ho
        refine .inl ⟨ids.length + (o - base), x0, by omega, ?_, h1, rfl⟩
        unfold rnm
        rw [List.getElem?_eq_none (by omega)]
        simp only [Option.getD_none]
        omega
      · exact .inr ⟨ho, idx_none hj, (r.obj o x ho).1⟩
  have hXρ : ∀ j, j < H'.length → X'.ρ (rnm ids base j) = ρ' j := fun j hj => hren.ρ j hj
  have hpass : ∀ j b, hb (ρc j) = some b → j < Hc.length → ∃ o x, ids[j]? = some o ∧ H o = some x ∧ hb (X.ρ o) = some b := by
    intro j b hbj hj
    have hj' : j < ids.length := by omega
    obtain ⟨x, hx⟩ := hlive ids[j] (by simp)
    exact ⟨ids[j], x, by simp [hj'], hx, by rw [← hρc j ids[j] (by simp [hj'])]; exact hbj⟩
  have hnotpass : ∀ o x b, H o = some x → o ∉ ids → hb (X.ρ o) = some b → ∀ j, j < Hc.length → hb (ρc j) ≠ some b := by
    intro o x b hx hn hbo j hj e
    obtain ⟨o', x', h1, h2, h3⟩ := hpass j b e hj
    have := r.inj o o' x x' b hx h2 hbo h3
    subst this
    exact hn (List.mem_of_getElem? h1)
  have hNw : ∀ o x b, H o = some x → o ∉ ids → hb (X.ρ o) = some b → w'.heap[b]? = X.w.heap[b]? := by
    intro o x b hx hn hbo
    exact hR.block b (((r.obj o x hx).2).lt hbo) (hnotpass o x b hx hn hbo)
  have hΦw : ∀ b, X.Φ b → w'.heap[b]? = X.w.heap[b]? := by
    intro b hΦ
    refine hR.block b (r.fro b hΦ) ?_
    intro j hj e
    obtain ⟨o', x', _, h2, h3⟩ := hpass j b e hj
    exact r.dis o' x' b h2 h3 hΦ
  have hlater : Later X X' := ⟨fun _ h => .inl h, hρX, fun _ h => .inl h, hΦw⟩
  have hPown : ∀ j x0 b, ofO H' j = some x0 → hb (ρ' j) = some b → X.w.heap.size ≤ b ∨ ∃ o x, o ∈ ids ∧ H o = some x ∧ hb (X.ρ o) = some b := by
    intro j x0 b h1 h2
    rcases hR.own j x0 b h1 h2 with h | ⟨j', h3, h4⟩
    · exact .inl h
    · obtain ⟨o', x', q1, q2, q3⟩ := hpass j' b h4 h3
      exact .inr ⟨o', x', List.mem_of_getElem? q1, q2, q3⟩
  refine ⟨y, H', v, X', rfl, hpo, rfl, ⟨hR.os.trans r.os, hR.tape.trans r.tape, hR.output.trans r.output, Nat.le_trans r.size hR.size, ?_, ?_, ?_, ?_, ?_, ?_, ?_, ?_, r.glob.mono hlater.Φ hlater.w⟩, hlater, fun o => Iff.rfl, ?_⟩
  · intro b hb' hn
    rw [← r.block b hb' hn]
    refine hR.block b (Nat.lt_of_lt_of_le hb' r.size) ?_
    intro j hj e
    obtain ⟨o', x', _, h2, h3⟩ := hpass j b e hj
    rcases r.own o' x' b h2 h3 with h | ⟨o'', q1, q2⟩
    · omega
    · exact hn o'' q1 q2
  · intro o ho
    show (if base ≤ o ∧ o < base + (H'.length - ids.length) then ρ' (ids.length + (o - base)) else X.ρ o) = ρ0 o
    rw [if_neg (by omega)]
    exact r.pin o ho
  · intro o x ho
    rcases hcls o x ho with ⟨j, x0, hj, rfl, h1, rfl⟩ | ⟨h1, h2, h3⟩
    · refine ⟨hren.U j hj, ?_⟩
      rw [hXρ j hj]
      refine ren_or hren ?_ (hR.obj j x0 h1).2
      rcases hal with hal | ⟨_, hal⟩
      · exact .inr (hΦs hal)
      · refine .inl (hal x0 ?_)
        have : H'[j]? = some (some x0) := by
          unfold ofO at h1
          cases h : H'[j]? with
          | none => rw [h] at h1; simp at h1
          | some z => rw [h] at h1; simp at h1; rw [h1]
        exact List.mem_of_getElem? this
    · refine ⟨.inl h3, ?_⟩
      rw [hρX o h3]
      exact ((r.obj o x h1).2).later hlater fun b hb' => hNw o x b h1 h2 hb'
  · intro o o' x x' b ho ho' e1 e2
    rcases hcls o x ho with ⟨j, x0, hj, rfl, h1, rfl⟩ | ⟨h1, h2, h3⟩
    · rcases hcls o' x' ho' with ⟨j', x0', hj', rfl, h1', rfl⟩ | ⟨h1', h2', h3'⟩
      · rw [hXρ j hj] at e1
        rw [hXρ j' hj'] at e2
        rw [hR.inj j j' x0 x0' b h1 h1' e1 e2]
      · exfalso
        rw [hXρ j hj] at e1
        rw [hρX o' h3'] at e2
        rcases hPown j x0 b h1 e1 with h | ⟨oo, xx, q1, q2, q3⟩
        · have := ((r.obj o' x' h1').2).lt e2
          omega
        · have := r.inj oo o' xx x' b q2 h1' q3 e2
          subst this
          exact h2' q1
    · rcases hcls o' x' ho' with ⟨j', x0', hj', rfl, h1', rfl⟩ | ⟨h1', h2', h3'⟩
      · exfalso
        rw [hXρ j' hj'] at e2
        rw [hρX o h3] at e1
        rcases hPown j' x0' b h1' e2 with h | ⟨oo, xx, q1, q2, q3⟩
        · have := ((r.obj o x h1).2).lt e1
          omega
        · have := r.inj oo o xx x b q2 h1 q3 e1
          subst this
          exact h2 q1
      · rw [hρX o h3] at e1
        rw [hρX o' h3'] at e2
        exact r.inj o o' x x' b h1 h1' e1 e2
  · intro o x b ho e1
    rcases hcls o x ho with ⟨j, x0, hj, rfl, h1, rfl⟩ | ⟨h1, h2, h3⟩
    · rw [hXρ j hj] at e1
      rcases hPown j x0 b h1 e1 with h | ⟨oo, xx, q1, q2, q3⟩
      · exact .inl (Nat.le_trans r.size h)
      · exact r.own oo xx b q2 q3
    · rw [hρX o h3] at e1
      exact r.own o x b h1 e1
  · intro o x b ho e1 hΦ
    rcases hcls o x ho with ⟨j, x0, hj, rfl, h1, rfl⟩ | ⟨h1, h2, h3⟩
    · rw [hXρ j hj] at e1
      rcases hΦ with hΦ | ⟨_, hΦ⟩
      · rcases hPown j x0 b h1 e1 with h | ⟨oo, xx, q1, q2, q3⟩
        · have := r.fro b hΦ
          omega
        · exact r.dis oo xx b q2 q3 hΦ
      · exact hR.dis j x0 b h1 e1 hΦ
    · rw [hρX o h3] at e1
      rcases hΦ with hΦ | ⟨hz, hΦ⟩
      · exact r.dis o x b h1 e1 hΦ
      · rcases hR.phi b hΦ with h | h | ⟨j', q1, q2⟩
        · rcases h with h | ⟨oo, hoo, _⟩
          · exact r.dis o x b h1 e1 h
          · rw [hz] at hoo; simp at hoo
        · have := ((r.obj o x h1).2).lt e1
          omega
        · exact hnotpass o x b h1 h2 e1 j' q1 q2
  · intro b hΦ
    rcases hΦ with hΦ | ⟨_, hΦ⟩
    · exact Nat.lt_of_lt_of_le (r.fro b hΦ) hR.size
    · exact hR.fro b hΦ
  · intro b hΦ
    rcases hΦ with hΦ | ⟨hz, hΦ⟩
    · exact r.phi b hΦ
    · rcases hR.phi b hΦ with h | h | ⟨j', q1, q2⟩
      · rcases h with h | ⟨oo, hoo, _⟩
        · exact r.phi b h
        · rw [hz] at hoo; simp at hoo
      · exact .inr (.inl (Nat.le_trans r.size h))
      · obtain ⟨o', x', _, h2, h3⟩ := hpass j' b q2 q1
        exact .inr (r.own o' x' b h2 h3)
  · refine ren_vv hren ?_ hvv
    rcases hal with hal | ⟨hal, _⟩
    · exact .inr (hΦs hal)
    · exact .inl hal
end
end Go.EW
namespace Go.EW
open Go
def QOp.opds : QOp → List Opd
  | .mov x | .un _ x | .cnv _ x | .eqp _ x | .eqi _ x | .box _ x | .ldc x | .lda _ x | .nilc x | .fad _ x | .fgc _ x | .fga _ _ x | .ext _ x | .mki _ x | .len x | .lens x | .b2s x | .s2b x | .s2a _ _ x => [x]
  | .pick c a b => [c, a, b]
  | .bin _ x y | .eqb _ x y | .eqa _ _ _ x y | .eqs _ _ _ _ x y | .eqw _ _ x y | .mget _ _ x y | .iad _ _ x y | .isl _ x y | .mks _ _ _ _ x y | .ixs x y => [x, y]
  | .alloc _ _ => []
  | .build _ ps => ps.map (·.2.2)
  | .bsl _ _ _ ps | .bsr _ _ _ _ ps => ps.map (·.2)
  | .ssl _ x lo hi | .sar _ x lo hi | .sst x lo hi => x :: (lo.toList ++ hi.toList)
  | .mkf _ cs => cs
  | .minmax _ xs => xs
def QOp.looks (q : QOp) (T : List EV) : List Nat :=
  match q with
  | .ldc x | .lda _ x => match asC (ev T x) with
    | some (.ptr o _) => [o]
    | some (.eptr o _ _ _) => [o]
    | _ => []
  | .isl _ x _ | .s2a _ _ x => match asC (ev T x) with
    | some (.row o _) => [o]
    | _ => []
  | .mget _ _ x _ => match asC (ev T x) with
    | some (.mp o) => [o]
    | _ => []
  | .b2s x => match asC (ev T x) with
    | some (.row o _) => [o]
    | some (.bsl o _ _) => [o]
    | _ => []
  | _ => []
theorem putParts_congr {T T' : List EV} : ∀ (ps : List (Nat × Nat × Opd)) (cs : List EC), (∀ x ∈ ps.map (·.2.2), ev T x = ev T' x) → putParts T cs ps = putParts T' cs ps
  | [], _, _ => rfl
  | (off, n, x) :: r, cs, h => by
    have h1 : ev T x = ev T' x := h x (by simp)
    have h2 : ∀ cs, putParts T cs r = putParts T' cs r := fun cs => putParts_congr r cs (fun y hy => h y (by rw [List.map_cons]; exact List.mem_cons_of_mem _ hy))
    simp only [putParts, h1, h2]
theorem setParts_congr {T T' : List EV} (es : Nat) : ∀ (ps : List (Nat × Opd)) (xs : List (List FV)), (∀ x ∈ ps.map (·.2), ev T x = ev T' x) → setParts T es xs ps = setParts T' es xs ps
  | [], _, _ => rfl
  | (i, x) :: r, xs, h => by
    have h1 : ev T x = ev T' x := h x (by simp)
    have h2 : ∀ cs, setParts T es cs r = setParts T' es cs r := fun cs => setParts_congr es r cs (fun y hy => h y (by rw [List.map_cons]; exact List.mem_cons_of_mem _ hy))
    simp only [setParts, h1, h2]
theorem lits_congr {T T' : List EV} : ∀ (xs : List Opd), (∀ x ∈ xs, ev T x = ev T' x) → lits T xs = lits T' xs
  | [], _ => rfl
  | x :: r, h => by
    simp only [lits, h x (by simp), lits_congr r (fun y hy => h y (by simp [hy]))]
theorem capsOf_congr {T T' : List EV} : ∀ (xs : List Opd), (∀ x ∈ xs, ev T x = ev T' x) → capsOf T xs = capsOf T' xs
  | [], _ => rfl
  | x :: r, h => by
    simp only [capsOf, h x (by simp), capsOf_congr r (fun y hy => h y (by simp [hy]))]
theorem bnd_congr {T T' : List EV} (d : Nat) (x : Option Opd) (h : ∀ y ∈ x.toList, ev T y = ev T' y) : bnd T d x = bnd T' d x := by
  cases x with
  | none => rfl
  | some y => simp only [bnd, h y (by simp)]
theorem evQ_T {q : QOp} {T T' : List EV} {H : Nat → Option EO} {id : Nat} (h : ∀ x ∈ q.opds, ev T x = ev T' x) : evQ q T H id = evQ q T' H id := by
  cases q <;> simp only [QOp.opds] at h <;> simp only [evQ]
  case build z ps => rw [putParts_congr ps _ h]
  case bsl es z len ps => rw [setParts_congr es ps _ h]
  case bsr ty es z len ps => rw [setParts_congr es ps _ h]
  case mkf f cs => rw [capsOf_congr cs h]
  case minmax mx xs => rw [lits_congr xs h]
  case ssl es x lo hi =>
    rw [h x (by simp)]
    simp only [bnd_congr 0 lo (fun y hy => h y (by simp [Option.mem_toList.1 hy])), fun d => bnd_congr (T := T) (T' := T') d hi (fun y hy => h y (by simp [Option.mem_toList.1 hy]))]
  case sar len x lo hi =>
    rw [h x (by simp)]
    simp only [bnd_congr 0 lo (fun y hy => h y (by simp [Option.mem_toList.1 hy])), fun d => bnd_congr (T := T) (T' := T') d hi (fun y hy => h y (by simp [Option.mem_toList.1 hy]))]
  case sst x lo hi =>
    rw [h x (by simp)]
    simp only [bnd_congr 0 lo (fun y hy => h y (by simp [Option.mem_toList.1 hy])), fun d => bnd_congr (T := T) (T' := T') d hi (fun y hy => h y (by simp [Option.mem_toList.1 hy]))]
  all_goals first
    | (rw [h _ (List.mem_cons_self ..), h _ (List.mem_cons_of_mem _ (List.mem_cons_self ..)), h _ (List.mem_cons_of_mem _ (List.mem_cons_of_mem _ (List.mem_cons_self ..)))]; done)
    | (rw [h _ (List.mem_cons_self ..), h _ (List.mem_cons_of_mem _ (List.mem_cons_self ..))]; done)
    | (rw [h _ (List.mem_cons_self ..)]; done)
theorem looks_T {q : QOp} {T T' : List EV} (h : ∀ x ∈ q.opds, ev T x = ev T' x) : q.looks T = q.looks T' := by
  cases q <;> simp only [QOp.opds] at h <;> simp only [QOp.looks] <;> rw [h _ (List.mem_cons_self ..)]
theorem cellsAt_H {H H' : Nat → Option EO} {p : EC} (h : ∀ o ∈ (match p with | .ptr o _ => [o] | .eptr o _ _ _ => [o] | _ => []), H o = H' o) : cellsAt H p = cellsAt H' p := by
  cases p <;> simp only [cellsAt] <;> first | rfl | rw [h _ (by simp)]
theorem cellsAtN_H {H H' : Nat → Option EO} {n : Nat} {p : EC} (h : ∀ o ∈ (match p with | .ptr o _ => [o] | .eptr o _ _ _ => [o] | _ => []), H o = H' o) : cellsAtN H n p = cellsAtN H' n p := by
  unfold cellsAtN
  rw [cellsAt_H h]
  have e : cellsRun H p = cellsRun H' p := by
    cases p <;> simp only [cellsRun] <;> first | rfl | rw [h _ (by simp)]
  rw [e]
theorem evQ_H {q : QOp} {T : List EV} {H H' : Nat → Option EO} {id : Nat} (h : ∀ o ∈ q.looks T, H o = H' o) : evQ q T H id = evQ q T H' id := by
  cases q <;> simp only [QOp.looks] at h <;> simp only [evQ]
  case ldc x =>
    cases hx : asC (ev T x) with
    | none => rfl
    | some p =>
      rw [hx] at h
      simp only [Option.bind_some]
      rw [cellsAt_H (H := H) (H' := H') (p := p) (by cases p <;> exact h)]
  case lda n x =>
    cases hx : asC (ev T x) with
    | none => rfl
    | some p =>
      rw [hx] at h
      simp only [Option.bind_some]
      rw [cellsAtN_H (H := H) (H' := H') (p := p) (by cases p <;> exact h)]
  case isl es x i =>
    cases hx : asC (ev T x) with
    | none => rfl
    | some p =>
      rw [hx] at h
      cases p with
      | row o len => dsimp only; rw [h o (by simp)]
      | fz y => cases y <;> rfl
      | _ => rfl
  case s2a n es x =>
    cases hx : asC (ev T x) with
    | none => rfl
    | some p =>
      rw [hx] at h
      cases p with
      | row o len => dsimp only; rw [h o (by simp)]
      | fz y => cases y <;> rfl
      | _ => rfl
  case mget rs zq x k =>
    cases hx : asC (ev T x) with
    | none => rfl
    | some p =>
      rw [hx] at h
      cases p with
      | mp o => simp only [Option.bind_some, mpOf]; rw [h o (by simp)]
      | _ => rfl
  case b2s x =>
    cases hx : asC (ev T x) with
    | none => rfl
    | some p =>
      rw [hx] at h
      simp only [Option.bind_some]
      have he : elems2 H 1 p = elems2 H' 1 p := by
        cases p with
        | row o len => simp only [elems2, elemsOf]; rw [h o (by simp)]
        | bsl o k len => simp only [elems2]; rw [h o (by simp)]
        | _ => rfl
      rw [he]
theorem evQ_live {q : QOp} {T : List EV} {H : Nat → Option EO} {id : Nat} {r : EV × Option EO} (h : evQ q T H id = some r) : ∀ o ∈ q.looks T, H o ≠ none := by
  intro o ho hn
  cases q <;> simp only [QOp.looks] at ho <;> try (simp at ho; done)
  case ldc x =>
    simp only [evQ] at h
    split at ho
    · rename_i o' k hx; simp at ho; subst ho; simp [hx, cellsAt, hn] at h
    · rename_i o' es i k hx; simp at ho; subst ho; simp [hx, cellsAt, hn] at h
    · simp at ho
  case lda n x =>
    simp only [evQ] at h
    split at ho
    · rename_i o' k hx; simp at ho; subst ho; simp [hx, cellsAtN, cellsAt, hn] at h
    · rename_i o' es i k hx; simp at ho; subst ho; simp [hx, cellsAtN, cellsAt, hn] at h
    · simp at ho
  case s2a n es x =>
    simp only [evQ] at h
    split at ho
    · rename_i o' k hx
      simp at ho; subst ho
      simp only [hx, hn] at h
      simp at h
    · simp at ho
  case isl es x i =>
    simp only [evQ] at h
    split at ho
    · rename_i o' k hx
      simp at ho; subst ho
      simp only [hx, hn] at h
      replace h := bind_some' h; obtain ⟨iv, _, h⟩ := h
      replace h := bind_some' h; obtain ⟨n, _, h⟩ := h
      simp at h
    · simp at ho
  case mget rs zq x k =>
    simp only [evQ] at h
    split at ho
    · rename_i o' hx; simp at ho; subst ho; simp [hx, mpOf, hn] at h
    · simp at ho
  case b2s x =>
    simp only [evQ] at h
    split at ho
    · rename_i o' k hx; simp at ho; subst ho; simp [hx, elems2, elemsOf, hn] at h
    · rename_i o' k l hx; simp at ho; subst ho; simp [hx, elems2, hn] at h
    · simp at ho
inductive MOp where
  | new (rs : List (Nat × IntKind))
  | len
  | ent (rs : List (Nat × IntKind)) (zq : IntKind)
  | sto
  deriving Inhabited
inductive EK where
  | q (q : QOp)
  | sto (n : Nat) (p x : Opd)
  | app (ty : TypeId) (es bytes : Nat) (s x : Opd)
  | cpy (es : Nat) (d s : Opd)
  | call (f : FuncId) (args : List Opd)
  | clo (x : Opd) (args : List Opd)
  | nild (neg : Bool) (x : Opd)
  | mrk (x : Opd)
  | mp (k : MOp) (xs : List Opd)
  | fz (k : EK)
  | bad
  deriving Inhabited
structure EOp where
  i : Nat
  dst : Option Nat
  gd : Option (Nat × Bool)
  k : EK
  uz : List Nat
  deriving Inhabited
def EK.quiet : EK → Bool
  | .q _ => true
  | _ => false
def EK.opds : EK → List Opd
  | .q qq => qq.opds
  | .sto _ p x => [p, x]
  | .app _ _ _ s x => [s, x]
  | .cpy _ d s => [d, s]
  | .call _ args => args
  | .clo x args => x :: args
  | .nild _ x | .mrk x => [x]
  | .mp _ xs => xs
  | .fz k => k.opds
  | .bad => []
def EOp.opds (e : EOp) : List Opd := (match e.gd with | some (t, _) => [Opd.t t] | none => []) ++ e.k.opds
def EK.looks (k : EK) (T : List EV) : List Nat :=
  match k with
  | .q qq => qq.looks T
  | _ => []
def setD (T : List EV) : Option Nat → EV → List EV
  | none, _ => T
  | some d, v => T.set d v
def gdOK (gd : Option (Nat × Bool)) (T : List EV) : Option Bool :=
  match gd with
  | none => some true
  | some (t, want) => match nth T t with
    | .v (.c (.fz (.lit (.bool b)))) => some (b == want)
    | .tup [] => some false
    | _ => none
def Wok (lg : List (Nat × List Nat)) (uz : List Nat) (i : Nat) : Prop := ∀ p ∈ lg, p.1 ∈ uz → i ∉ p.2
def refsAt (H : Nat → Option EO) (o : Nat) : List Nat :=
  match H o with
  | some x => refsO x
  | none => []
def stepR (H : Nat → Option EO) (l : List Nat) : List Nat := l ++ l.flatMap (refsAt H)
def reach (H : Nat → Option EO) (l : List Nat) : List Nat := stepR H (stepR H (stepR H l))
def ECallAt (P : Program) (f : FuncId) (args : List EV) (H : Nat → Option EO) (base : Nat) (ok : Nat → Prop) (K : EV → (Nat → Option EO) → Prop) : Prop :=
  ∃ ids args' Hc post, conArgs H ids args = some args' ∧ objsIn H ids ids = some Hc ∧ ids.Nodup ∧ (∀ i ∈ ids, i ∈ reach H (args.flatMap refsV)) ∧ (∀ i ∈ ids, ok i ∨ ∀ y H', post y H' → after H ids base H' i = H i) ∧ ECalls P f args' Hc post ∧
    ∀ y H', post y H' → ((args.flatMap (fzV ids) = [] ∨ (noSlV y = true ∧ ∀ x, some x ∈ H' → noSlO x = true)) ∧ H'.length ≤ ids.length + 16) ∧ K (renV (rnm ids base) y) (after H ids base H')
def bodyOK (P : Program) (f : FuncId) : Bool :=
  match P.funcs[f]? with
  | some fn => fn.body.isSome && fn.name != "runtime.NumGoroutine"
  | none => false
def nilF : FV → Option Nat
  | .sl _ xs => some xs.length
  | .lit (.slice none 0 0) => some 0
  | _ => none
def nilLen (H : Nat → Option EO) : EC → Option Nat
  | .fz x => nilF x
  | .row o len => match H o with
    | some (.row _ _ _) => some len
    | _ => none
  | _ => none
def rowOf (H : Nat → Option EO) : EC → Option (Nat × List (List FV))
  | .row o len => match H o with
    | some (.row _ es xs) => if es = 1 ∧ len = xs.length ∧ 0 < len then some (o, xs) else none
    | _ => none
  | _ => none
def isNil : EC → Bool
  | .fz (.lit _) => true
  | _ => false
def opM (_ : Program) (k : MOp) (xs : List Opd) (id : Nat) (ok : Nat → Prop) (K : EV → (Nat → Option EO) → Prop) (T : List EV) (H : Nat → Option EO) : Prop :=
  match k, xs with
  | .new rs, [] => K (.v (.c (.mp id))) (upd H id (some (.mp rs [])))
  | .len, [x] => match (asC (ev T x)).bind (mpOf H) with
    | some r => K (.lit (.int .i64 (r.2.2.length : Int))) H
    | none => False
  | .ent rs zq, [x, k] => match (asC (ev T x)).bind (mpOf H), (asAg (ev T k)).bind (litK (unrle rs)) with
    | some r, some ns => ok r.1 ∧ r.2.1 = rs ∧ K (.tup [.c (.fz (.lit (getM (.int zq 0) ns r.2.2))), .c (.fz (.lit (.int .i64 (idxM ns r.2.2 : Int))))]) (upd H r.1 (some (.mp rs (entM (.int zq 0) ns r.2.2))))
    | _, _ => False
  | .sto, [x, s, v] => match (asC (ev T x)).bind (mpOf H), (asLit (ev T s)).bind isNum, asLit (ev T v) with
    | some r, some n, some u => ok r.1 ∧ (0 ≤ n ∧ n.toNat < r.2.2.length) ∧ K (.tup []) (upd H r.1 (some (.mp r.2.1 (putM n.toNat u r.2.2))))
    | _, _, _ => False
  | _, _ => False
def opK0 (P : Program) (k : EK) (id : Nat) (ok : Nat → Prop) (K : EV → (Nat → Option EO) → Prop) (T : List EV) (H : Nat → Option EO) : Prop :=
  match k with
  | .q q => match evQ q T H id with
    | some (v, ob) => K v (addO H id ob)
    | none => False
  | .sto n p x => match asC (ev T p), asCells (ev T x) with
    | some pc, some cs => match stoAt H pc cs with
      | some (i, ob) => cs.length = n ∧ ok i ∧ K (.tup []) (upd H i (some ob))
      | none => False
    | _, _ => False
  | .app ty es bytes s x => match asC (ev T s), asC (ev T x) with
    | some sc, some xc => match baseOf H ty es sc, elems2 H es xc with
      | some (old, xs), some ys => (xs.length + ys.length ≤ 9223372036854775807 ∧ (xs.length + ys.length) * bytes ≤ 140737488355328) ∧ (∀ o, old = some o → ok o) ∧
          K (.v (.c (.row id (xs.length + ys.length)))) (upd (dropO H old) id (some (.row ty es (xs ++ ys))))
      | _, _ => False
    | _, _ => False
  | .cpy es d s => match asC (ev T d), asC (ev T s) with
    | some dc, some xc => match elems2 H es xc with
      | some ys => match cpyAt H es dc ys with
        | some (i, ob, n) => ok i ∧ K (.lit (.int .i64 (n : Int))) (upd H i (some ob))
        | none => False
      | none => False
    | _, _ => False
  | .call f args => ECallAt P f (args.map (ev T)) H id ok K
  | .clo x args => match asC (ev T x) with
    | some (.clo f caps) => bodyOK P f = true ∧ ECallAt P f (args.map (ev T) ++ caps.map fun p => .v (.c (.ptr p.1 p.2))) H id ok K
    | _ => False
  | .nild neg x => match asC (ev T x) with
    | some c => match nilLen H c with
      | some n => (n = 0 → K (.lit (.bool !neg)) H) ∧ (isNil c = false → K (.lit (.bool neg)) H)
      | none => False
    | none => False
  | .mrk x => match asC (ev T x) with
    | some c => match rowOf H c with
      | some (o, xs) => ok o ∧ K (.v (.c (.fz (.sl 1 xs)))) (upd H o none)
      | none => False
    | none => False
  | .mp mk xs => opM P mk xs id ok K T H
  | .fz _ => False
  | .bad => False
def rowsE : EC → List Nat
  | .row o _ => [o]
  | _ => []
def rowsV : EV → List Nat
  | .v (.c x) => rowsE x
  | .v (.agg cs) => cs.flatMap rowsE
  | _ => []
def isRow (H : Nat → Option EO) (o : Nat) : Bool := match H o with
  | some (.row _ _ _) => true
  | _ => false
def dataK (k : EK) (T : List EV) : List EV :=
  match k with
  | .q (.bsl _ _ _ ps) => ps.map fun p => ev T p.2
  | .sto _ p x => match asC (ev T p) with
    | some (.eptr _ _ _ _) => [ev T x]
    | _ => []
  | _ => []
def deadK (k : EK) (T : List EV) (H : Nat → Option EO) : List Nat := ((dataK k T).flatMap rowsV).filter (isRow H)
def fzM (H : Nat → Option EO) (d : List Nat) : EC → EC
  | .row o len => if o ∈ d then match H o with
      | some (.row _ es xs) => .fz (.sl es (xs.take len))
      | _ => .row o len
    else .row o len
  | c => c
def fzMT (H : Nat → Option EO) (d : List Nat) : TV → TV
  | .c x => .c (fzM H d x)
  | .agg cs => .agg (cs.map (fzM H d))
def fzMV (H : Nat → Option EO) (d : List Nat) : EV → EV
  | .v t => .v (fzMT H d t)
  | .tup ts => .tup (ts.map (fzMT H d))
  | .any => .any
def rmv (H : Nat → Option EO) (d : List Nat) : Nat → Option EO := fun o => if o ∈ d then none else H o
def opK (P : Program) (k : EK) (id : Nat) (ok : Nat → Prop) (K : EV → (Nat → Option EO) → Prop) (T : List EV) (H : Nat → Option EO) : Prop :=
  match k with
  | .fz k => (∀ o ∈ deadK k T H, ok o) ∧ opK0 P k id ok K (T.map (fzMV H (deadK k T H))) (rmv H (deadK k T H))
  | k => opK0 P k id ok K T H
def opT (P : Program) (n : Nat) (e : EOp) (lg : List (Nat × List Nat)) (K : List EV → (Nat → Option EO) → Prop) (T : List EV) (H : Nat → Option EO) : Prop :=
  match gdOK e.gd T with
  | none => False
  | some false => K (setD T e.dst (.tup [])) H
  | some true => opK P e.k (n + 16 * e.i) (Wok lg e.uz) (fun v H' => K (setD T e.dst v) H') T H
def chain (P : Program) (n : Nat) : List EOp → List (Nat × List Nat) → (List EV → (Nat → Option EO) → Prop) → List EV → (Nat → Option EO) → Prop
  | [], _, K, T, H => K T H
  | e :: r, lg, K, T, H => opT P n e lg (fun T' H' => chain P n r ((e.i, e.k.looks T) :: lg) K T' H') T H
theorem ECallAt.mono {P : Program} {f : FuncId} {args : List EV} {H : Nat → Option EO} {base : Nat} {ok ok' : Nat → Prop} {K K' : EV → (Nat → Option EO) → Prop} (ho : ∀ i, ok i → ok' i) (hK : ∀ v H, K v H → K' v H) (h : ECallAt P f args H base ok K) : ECallAt P f args H base ok' K' :=
  let ⟨ids, args', Hc, post, h1, h2, h3, h4, h5, h6, h7⟩ := h
  ⟨ids, args', Hc, post, h1, h2, h3, h4, fun i hi => (h5 i hi).imp (ho i) id, h6, fun y H' hp => ⟨(h7 y H' hp).1, hK _ _ (h7 y H' hp).2⟩⟩
theorem opK0.mono {P : Program} {k : EK} {id : Nat} {ok ok' : Nat → Prop} {K K' : EV → (Nat → Option EO) → Prop} {T : List EV} {H : Nat → Option EO} (ho : ∀ i, ok i → ok' i) (hK : ∀ v H, K v H → K' v H) (h : opK0 P k id ok K T H) : opK0 P k id ok' K' T H := by
  cases k <;> simp only [opK0] at h ⊢
  case q q =>
    split at h
    · exact hK _ _ h
    · exact h
  case sto n p x =>
    split at h
    · split at h
      · exact ⟨h.1, ho _ h.2.1, hK _ _ h.2.2⟩
      · exact h
    · exact h
  case app ty es bytes s x =>
    split at h
    · split at h
      · exact ⟨h.1, fun o e => ho _ (h.2.1 o e), hK _ _ h.2.2⟩
      · exact h
    · exact h
  case cpy es d s =>
    split at h
    · split at h
      · split at h
        · exact ⟨ho _ h.1, hK _ _ h.2⟩
        · exact h
      · exact h
    · exact h
  case call f args => exact ECallAt.mono ho hK h
  case clo x args =>
    split at h
    · exact ⟨h.1, ECallAt.mono ho hK h.2⟩
    · exact h
  case nild neg x =>
    split at h
    · split at h
      · exact ⟨fun e => hK _ _ (h.1 e), fun e => hK _ _ (h.2 e)⟩
      · exact h
    · exact h
  case mrk x =>
    split at h
    · split at h
      · exact ⟨ho _ h.1, hK _ _ h.2⟩
      · exact h
    · exact h
  case mp mk xs =>
    unfold opM at h ⊢
    split at h
    · exact hK _ _ h
    · split at h
      · exact hK _ _ h
      · exact h
    · split at h
      · exact ⟨ho _ h.1, h.2.1, hK _ _ h.2.2⟩
      · exact h
    · split at h
      · exact ⟨ho _ h.1, h.2.1, hK _ _ h.2.2⟩
      · exact h
    · exact h
theorem opK.mono {P : Program} {k : EK} {id : Nat} {ok ok' : Nat → Prop} {K K' : EV → (Nat → Option EO) → Prop} {T : List EV} {H : Nat → Option EO} (ho : ∀ i, ok i → ok' i) (hK : ∀ v H, K v H → K' v H) (h : opK P k id ok K T H) : opK P k id ok' K' T H := by
  cases k with
  | fz k => exact ⟨fun o hm => ho o (h.1 o hm), opK0.mono ho hK h.2⟩
  | _ => simp only [opK] at h ⊢; exact opK0.mono ho hK h
theorem opT.mono {P : Program} {n : Nat} {e : EOp} {lg lg' : List (Nat × List Nat)} {K K' : List EV → (Nat → Option EO) → Prop} {T : List EV} {H : Nat → Option EO} (hl : ∀ p ∈ lg', p ∈ lg) (hK : ∀ T H, K T H → K' T H) (h : opT P n e lg K T H) : opT P n e lg' K' T H := by
  unfold opT at h ⊢
  split at h
  · exact h
  · exact hK _ _ h
  · exact opK.mono (fun i hi p hp => hi p (hl p hp)) (fun _ _ => hK _ _) h
theorem chain.mono {P : Program} {n : Nat} {K K' : List EV → (Nat → Option EO) → Prop} (hK : ∀ T H, K T H → K' T H) : ∀ {l : List EOp} {lg lg' : List (Nat × List Nat)} {T : List EV} {H : Nat → Option EO}, (∀ p ∈ lg', p ∈ lg) → chain P n l lg K T H → chain P n l lg' K' T H
  | [], _, _, _, _, _, h => hK _ _ h
  | e :: r, lg, lg', T, H, hl, h => opT.mono hl (fun T' H' h' => chain.mono hK (l := r) (by
      intro p hp
      rcases List.mem_cons.1 hp with rfl | hp
      · exact List.mem_cons_self ..
      · exact List.mem_cons_of_mem _ (hl p hp)) h') h
@[simp] def xM (i d s : Nat) : EOp := ⟨i, some d, none, .q (.mov (.t s)), []⟩
@[simp] def xQ (i d : Nat) (q : QOp) : EOp := ⟨i, some d, none, .q q, []⟩
@[simp] def xO (i d : Nat) (k : EK) : EOp := ⟨i, some d, none, k, []⟩
@[simp] def xN (i : Nat) (k : EK) : EOp := ⟨i, none, none, k, []⟩
@[simp] def xG (i d g : Nat) (b : Bool) (q : QOp) : EOp := ⟨i, some d, some (g, b), .q q, []⟩
end Go.EW
namespace Go.EW
open Go
def tmpsOf (l : List Opd) : List Nat := l.filterMap fun | .t i => some i | .k _ => none
def EOp.tmps (e : EOp) : List Nat := tmpsOf e.opds
def unrel (z e : EOp) : Bool :=
  (match z.dst with | some d => !(e.tmps.contains d) && (e.dst != some d) | none => true) &&
  (match e.dst with | some d => !(z.tmps.contains d) | none => true)
theorem nth_set_ne {T : List EV} {d i : Nat} {v : EV} (h : d ≠ i) : nth (T.set d v) i = nth T i := by
  rw [nth_eq, nth_eq, List.getElem?_set_ne h]
theorem ev_setD {T : List EV} {d : Option Nat} {v : EV} {x : Opd} (h : ∀ i, x = .t i → d ≠ some i) : ev (setD T d v) x = ev T x := by
  cases x with
  | k _ => rfl
  | t i =>
    cases d with
    | none => rfl
    | some j => exact nth_set_ne (fun e => h i rfl (by rw [e]))
theorem mem_tmps {l : List Opd} {i : Nat} (h : Opd.t i ∈ l) : i ∈ tmpsOf l := by
  unfold tmpsOf
  exact List.mem_filterMap.2 ⟨_, h, rfl⟩
theorem evs_setD {T : List EV} {d : Option Nat} {v : EV} {l : List Opd} (h : ∀ i, d = some i → i ∉ tmpsOf l) : ∀ x ∈ l, ev (setD T d v) x = ev T x := by
  intro x hx
  refine ev_setD ?_
  intro i hi hd
  subst hi
  exact h i hd (mem_tmps hx)
theorem unrel_spec {z e : EOp} (h : unrel z e = true) : (∀ d, z.dst = some d → d ∉ e.tmps) ∧ (∀ d, z.dst = some d → e.dst ≠ some d) ∧ (∀ d, e.dst = some d → d ∉ z.tmps) := by
  unfold unrel at h
  rw [Bool.and_eq_true] at h
  obtain ⟨h1, h2⟩ := h
  refine ⟨?_, ?_, ?_⟩
  · intro d hd
    rw [hd] at h1
    simp at h1
    exact h1.1
  · intro d hd
    rw [hd] at h1
    simp at h1
    exact h1.2
  · intro d hd
    rw [hd] at h2
    simpa using h2
theorem tmps_k {e : EOp} {d : Option Nat} (h : ∀ i, d = some i → i ∉ e.tmps) : ∀ i, d = some i → i ∉ tmpsOf e.k.opds := by
  intro i hi hm
  refine h i hi ?_
  unfold EOp.tmps EOp.opds tmpsOf at *
  rw [List.filterMap_append]
  exact List.mem_append_right _ hm
theorem gd_setD {e : EOp} {T : List EV} {d : Option Nat} {v : EV} (h : ∀ i, d = some i → i ∉ e.tmps) : gdOK e.gd (setD T d v) = gdOK e.gd T := by
  unfold gdOK
  cases hg : e.gd with
  | none => rfl
  | some p =>
    obtain ⟨t, want⟩ := p
    have : nth (setD T d v) t = nth T t := by
      refine ev_setD (x := .t t) ?_
      intro i hi hd
      simp at hi; subst hi
      refine h t hd ?_
      unfold EOp.tmps EOp.opds
      exact mem_tmps (by simp [hg])
    simp only [this]
theorem looks_setD {e : EOp} {T : List EV} {d : Option Nat} {v : EV} (h : ∀ i, d = some i → i ∉ e.tmps) : e.k.looks (setD T d v) = e.k.looks T := by
  have hk := tmps_k h
  cases hkk : e.k with
  | q qq => rw [hkk] at hk; exact looks_T (evs_setD hk)
  | _ => rfl
theorem setD_comm {T : List EV} {d e : Option Nat} {v u : EV} (h : ∀ i, d = some i → e ≠ some i) : setD (setD T d v) e u = setD (setD T e u) d v := by
  cases d with
  | none => rfl
  | some i =>
    cases e with
    | none => rfl
    | some j => exact List.set_comm _ _ (fun e' => h i rfl (by rw [e']))
theorem addO_ne {H : Nat → Option EO} {id : Nat} {ob : Option EO} {o : Nat} (h : o ≠ id) : addO H id ob o = H o := by
  cases ob with
  | none => rfl
  | some x => exact upd_ne _ _ _ h
theorem upd_comm {α : Type} {f : Nat → α} {i j : Nat} {a b : α} (h : i ≠ j) : upd (upd f i a) j b = upd (upd f j b) i a := by
  funext o
  unfold upd
  by_cases h1 : o = j
  · by_cases h2 : o = i
    · exact absurd (h2.symm.trans h1) h
    · simp [h1, Ne.symm h]
  · by_cases h2 : o = i <;> simp [h1, h2, h]
theorem addO_upd {H : Nat → Option EO} {id i : Nat} {ob : Option EO} {x : Option EO} (h : i ≠ id) : upd (addO H id ob) i x = addO (upd H i x) id ob := by
  cases ob with
  | none => rfl
  | some y => exact upd_comm h.symm
theorem addO_addO {H : Nat → Option EO} {id i : Nat} {ob ob' : Option EO} (h : i ≠ id) : addO (addO H id ob) i ob' = addO (addO H i ob') id ob := by
  cases ob' with
  | none => rfl
  | some y => exact addO_upd h
theorem addO_dropO {H : Nat → Option EO} {id : Nat} {ob : Option EO} {old : Option Nat} (h : old ≠ some id) : dropO (addO H id ob) old = addO (dropO H old) id ob := by
  cases old with
  | none => rfl
  | some o => exact addO_upd (fun e => h (by rw [e]))
theorem stepR_sub {H : Nat → Option EO} {l : List Nat} : ∀ o ∈ l, o ∈ stepR H l := fun _ h => List.mem_append_left _ h
theorem reach_sub {H : Nat → Option EO} {l : List Nat} : ∀ o ∈ l, o ∈ reach H l := fun o h => stepR_sub o (stepR_sub o (stepR_sub o h))
theorem stepR_add {H : Nat → Option EO} {id : Nat} {ob : Option EO} {l : List Nat} (h : id ∉ l) : stepR (addO H id ob) l = stepR H l := by
  unfold stepR
  congr 1
  have : ∀ o ∈ l, refsAt (addO H id ob) o = refsAt H o := by
    intro o ho
    unfold refsAt
    rw [addO_ne (by rintro rfl; exact h ho)]
  clear h
  induction l with
  | nil => rfl
  | cons a r ih =>
    simp only [List.flatMap_cons]
    rw [this a (by simp), ih (fun o ho => this o (by simp [ho]))]
theorem reach_add {H : Nat → Option EO} {id : Nat} {ob : Option EO} {l : List Nat} (h : id ∉ reach H l) : reach (addO H id ob) l = reach H l := by
  unfold reach at *
  have h2 : id ∉ stepR H (stepR H l) := fun e => h (stepR_sub _ e)
  have h1 : id ∉ stepR H l := fun e => h2 (stepR_sub _ e)
  have h0 : id ∉ l := fun e => h1 (stepR_sub _ e)
  rw [stepR_add h0, stepR_add h1, stepR_add h2]
def EOp.refs (e : EOp) (T : List EV) : List Nat := e.k.opds.flatMap fun x => refsV (ev T x)
structure Fresh (n : Nat) (e : EOp) (D : List Nat) (T : List EV) (H : Nat → Option EO) : Prop where
  new : ∀ o ∈ reach H (e.refs T), o ∉ D
  free : ∀ k, k < 16 → H (n + 16 * e.i + k) = none
theorem refs_asC {T : List EV} {x : Opd} {c : EC} (h : asC (ev T x) = some c) : refsC c = refsV (ev T x) := by
  rw [asC_some h]; rfl
theorem elems2_add {H : Nat → Option EO} {id : Nat} {ob : Option EO} {es : Nat} {c : EC} (h : id ∉ refsC c) : elems2 (addO H id ob) es c = elems2 H es c := by
  cases c with
  | row o len => simp only [elems2, elemsOf]; rw [addO_ne (by simp [refsC] at h; exact fun e => h e.symm)]
  | bsl o k len => simp only [elems2]; rw [addO_ne (by simp [refsC] at h; exact fun e => h e.symm)]
  | _ => rfl
theorem stoAt_add {H : Nat → Option EO} {id : Nat} {ob : Option EO} {p : EC} {cs : List EC} (h : id ∉ refsC p) : stoAt (addO H id ob) p cs = stoAt H p cs := by
  cases p with
  | ptr o k => simp only [stoAt]; rw [addO_ne (by simp [refsC] at h; exact fun e => h e.symm)]
  | eptr o es i k => simp only [stoAt]; rw [addO_ne (by simp [refsC] at h; exact fun e => h e.symm)]
  | _ => rfl
theorem stoAt_ref {H : Nat → Option EO} {p : EC} {cs : List EC} {i : Nat} {x : EO} (h : stoAt H p cs = some (i, x)) : i ∈ refsC p := by
  unfold stoAt at h
  split at h
  · split at h
    · split at h
      · simp at h; simp [refsC, h.1]
      · simp at h
    · simp at h
  · split at h
    · split at h
      · replace h := bind_some' h; obtain ⟨y, _, h⟩ := h
        replace h := bind_some' h; obtain ⟨fs, _, h⟩ := h
        split at h
        · simp at h; simp [refsC, h.1]
        · simp at h
      · simp at h
    · simp at h
  · simp at h
theorem baseOf_add {H : Nat → Option EO} {id : Nat} {ob : Option EO} {ty : TypeId} {es : Nat} {c : EC} (h : id ∉ refsC c) : baseOf (addO H id ob) ty es c = baseOf H ty es c := by
  cases c with
  | row o len => simp only [baseOf]; rw [addO_ne (by simp [refsC] at h; exact fun e => h e.symm)]
  | _ => rfl
theorem baseOf_ref {H : Nat → Option EO} {ty : TypeId} {es : Nat} {c : EC} {old : Option Nat} {xs : List (List FV)} (h : baseOf H ty es c = some (old, xs)) : ∀ o, old = some o → o ∈ refsC c ∧ H o ≠ none := by
  intro o ho
  unfold baseOf at h
  split at h
  · unfold baseF at h
    split at h
    · simp at h; rw [← h.1] at ho; simp at ho
    · simp at h
  · rename_i o' len
    split at h
    · rename_i hH
      split at h
      · simp at h
        rw [← h.1] at ho
        simp at ho
        subst ho
        exact ⟨by simp [refsC], by rw [hH]; simp⟩
      · split at h
        · simp at h
          rw [← h.1] at ho
          simp at ho
          subst ho
          exact ⟨by simp [refsC], by rw [hH]; simp⟩
        · simp at h
    · simp at h
  · simp at h
theorem cpyAt_add {H : Nat → Option EO} {id : Nat} {ob : Option EO} {es : Nat} {c : EC} {ys : List (List FV)} (h : id ∉ refsC c) : cpyAt (addO H id ob) es c ys = cpyAt H es c ys := by
  cases c with
  | bsl o k len => simp only [cpyAt]; rw [addO_ne (by simp [refsC] at h; exact fun e => h e.symm)]
  | row o len => simp only [cpyAt]; rw [addO_ne (by simp [refsC] at h; exact fun e => h e.symm)]
  | rsl o k len => simp only [cpyAt]; rw [addO_ne (by simp [refsC] at h; exact fun e => h e.symm)]
  | _ => rfl
theorem cpyAt_ref {H : Nat → Option EO} {es : Nat} {c : EC} {ys : List (List FV)} {i n : Nat} {x : EO} (h : cpyAt H es c ys = some (i, x, n)) : i ∈ refsC c := by
  unfold cpyAt at h
  split at h
  · split at h
    · split at h
      · simp at h; simp [refsC, h.1]
      · simp at h
    · simp at h
  · split at h
    · split at h
      · simp at h; simp [refsC, h.1]
      · simp at h
    · simp at h
  · split at h
    · split at h
      · simp at h; simp [refsC, h.1]
      · simp at h
    · simp at h
  · simp at h
theorem conC_add {H : Nat → Option EO} {id : Nat} {ob : Option EO} {ids : List Nat} {c : EC} (h : id ∉ refsC c) : conC (addO H id ob) ids c = conC H ids c := by
  cases c with
  | row o len => simp only [conC]; rw [addO_ne (by simp [refsC] at h; exact fun e => h e.symm)]
  | bsl o k len => simp only [conC]; rw [addO_ne (by simp [refsC] at h; exact fun e => h e.symm)]
  | _ => rfl
theorem conAll_add {H : Nat → Option EO} {id : Nat} {ob : Option EO} {ids : List Nat} : ∀ {cs : List EC}, id ∉ cs.flatMap refsC → conAll (addO H id ob) ids cs = conAll H ids cs
  | [], _ => rfl
  | x :: r, h => by
    simp only [List.flatMap_cons, List.mem_append, not_or] at h
    simp only [conAll, conC_add h.1, conAll_add h.2]
theorem conV_add {H : Nat → Option EO} {id : Nat} {ob : Option EO} {ids : List Nat} {x : EV} (h : id ∉ refsV x) : conV (addO H id ob) ids x = conV H ids x := by
  cases x with
  | v t =>
    cases t with
    | c x => simp only [conV, conC_add (show id ∉ refsC x from h)]
    | agg cs => simp only [conV, conAll_add (show id ∉ cs.flatMap refsC from h)]
  | _ => rfl
theorem conArgs_add {H : Nat → Option EO} {id : Nat} {ob : Option EO} {ids : List Nat} : ∀ {xs : List EV}, id ∉ xs.flatMap refsV → conArgs (addO H id ob) ids xs = conArgs H ids xs
  | [], _ => rfl
  | x :: r, h => by
    simp only [List.flatMap_cons, List.mem_append, not_or] at h
    simp only [conArgs, conV_add h.1, conArgs_add h.2]
theorem objsIn_add {H : Nat → Option EO} {id : Nat} {ob : Option EO} {ids : List Nat} : ∀ {l : List Nat}, id ∉ l → objsIn (addO H id ob) ids l = objsIn H ids l
  | [], _ => rfl
  | x :: r, h => by
    simp only [List.mem_cons, not_or] at h
    simp only [objsIn, objsIn_add h.2]
    rw [addO_ne (fun e => h.1 e.symm)]
theorem after_add {H : Nat → Option EO} {id : Nat} {ob : Option EO} {ids : List Nat} {base : Nat} {H' : List (Option EO)} (h : id ∉ ids) (hr : ¬ (base ≤ id ∧ id < base + (H'.length - ids.length))) : after (addO H id ob) ids base H' = addO (after H ids base H') id ob := by
  cases ob with
  | none => rfl
  | some x =>
    funext o
    by_cases e : o = id
    · subst e
      show after (upd H o (some x)) ids base H' o = upd (after H ids base H') o (some x) o
      rw [upd_same]
      unfold after
      split
      · rename_i j hj
        exact absurd (List.mem_of_getElem? (idx_some hj)) h
      · rw [if_neg hr, upd_same]
    · rw [addO_ne e]
      unfold after
      rw [addO_ne e]
theorem ECallAt_add {P : Program} {f : FuncId} {args : List EV} {H : Nat → Option EO} {base id : Nat} {ob : Option EO} {ok : Nat → Prop} {K : EV → (Nat → Option EO) → Prop}
    (hnew : id ∉ reach H (args.flatMap refsV)) (hr : ¬ (base ≤ id ∧ id < base + 16)) (hfree : ∀ k, k < 16 → H (base + k) = none)
    (h : ECallAt P f args (addO H id ob) base ok K) :
    ECallAt P f args H base ok (fun v H' => (∀ o, H o ≠ none → ¬ ok o → H' o = H o) ∧ K v (addO H' id ob)) := by
  obtain ⟨ids, args', Hc, post, h1, h2, h3, h4, h5, h6, h7⟩ := h
  rw [reach_add hnew] at h4
  have hid : id ∉ ids := fun e => hnew (h4 id e)
  rw [conArgs_add (fun e => hnew (reach_sub _ e))] at h1
  rw [objsIn_add hid] at h2
  have h5' : ∀ i ∈ ids, ok i ∨ ∀ y H', post y H' → after H ids base H' i = H i := by
    intro i hi
    refine (h5 i hi).imp (fun h => h) fun h y H' hp => ?_
    have hii : i ≠ id := fun e => hid (e ▸ hi)
    have h8 := h y H' hp
    have h9 := (h7 y H' hp).1.2
    rw [after_add hid (by rintro ⟨q1, q2⟩; exact hr ⟨q1, by omega⟩), addO_ne hii, addO_ne hii] at h8
    exact h8
  refine ⟨ids, args', Hc, post, h1, h2, h3, h4, h5', h6, ?_⟩
  intro y H' hp
  obtain ⟨⟨c1, c2⟩, c3⟩ := h7 y H' hp
  refine ⟨⟨c1, c2⟩, ?_, ?_⟩
  · intro o hL hno
    by_cases hoi : o ∈ ids
    · exact ((h5' o hoi).resolve_left hno) y H' hp
    unfold after
    split
    · rename_i j hj
      exact absurd (List.mem_of_getElem? (idx_some hj)) hoi
    · rw [if_neg]
      rintro ⟨q1, q2⟩
      refine hL ?_
      have := hfree (o - base) (by omega)
      rwa [show base + (o - base) = o by omega] at this
  · rwa [after_add hid (by rintro ⟨q1, q2⟩; exact hr ⟨q1, by omega⟩)] at c3
end Go.EW
namespace Go.EW
open Go
theorem refs_mem {T : List EV} {l : List Opd} {x : Opd} {c : EC} (hx : x ∈ l) (h : asC (ev T x) = some c) : ∀ o ∈ refsC c, o ∈ l.flatMap fun x => refsV (ev T x) := by
  intro o ho
  rw [refs_asC h] at ho
  exact List.mem_flatMap.2 ⟨x, hx, ho⟩
theorem opK0_swap {P : Program} {k : EK} {ide idz : Nat} {ob : Option EO} {ok ok1 : Nat → Prop} {K : EV → (Nat → Option EO) → Prop} {T T1 : List EV} {H : Nat → Option EO}
    (hT : ∀ x ∈ k.opds, ev T1 x = ev T x) (hnew : idz ∉ reach H (k.opds.flatMap fun x => refsV (ev T x))) (hfree : ∀ j, j < 16 → H (ide + j) = none) (hr : ¬ (ide ≤ idz ∧ idz < ide + 16)) (hok : ∀ i, ok1 i → ok i)
    (h : opK0 P k ide ok1 K T1 (addO H idz ob)) :
    opK0 P k ide ok (fun v H' => (∀ o, H o ≠ none → ¬ ok o → H' o = H o) ∧ K v (addO H' idz ob)) T H := by
  have hnr : ∀ {x : Opd} {c : EC}, x ∈ k.opds → asC (ev T x) = some c → idz ∉ refsC c := by
    intro x c hx hc hm
    exact hnew (reach_sub _ (refs_mem hx hc _ hm))
  have hide : H ide = none := by have := hfree 0 (by omega); simpa using this
  have hne : ide ≠ idz := by intro e; exact hr ⟨by omega, by omega⟩
  cases k with
  | q qq =>
    simp only [opK0] at h ⊢
    have h1 : evQ qq T1 (addO H idz ob) ide = evQ qq T (addO H idz ob) ide := evQ_T hT
    have hlook : ∀ o ∈ qq.looks T, addO H idz ob o = H o := by
      intro o ho
      refine addO_ne ?_
      rintro rfl
      refine hnew (reach_sub _ ?_)
      have key : ∀ {x : Opd} {c : EC}, x ∈ qq.opds → asC (ev T x) = some c → o ∈ refsC c → o ∈ (EK.q qq).opds.flatMap fun x => refsV (ev T x) := fun hx hc hm => refs_mem hx hc _ hm
      cases qq <;> simp only [QOp.looks] at ho <;> try (simp at ho; done)
      · split at ho <;> first | (rename_i hx; exact key (by simp [QOp.opds]) hx (by simpa [refsC] using ho)) | simp at ho
      · split at ho <;> first | (rename_i hx; exact key (by simp [QOp.opds]) hx (by simpa [refsC] using ho)) | simp at ho
      · split at ho <;> first | (rename_i hx; exact key (by simp [QOp.opds]) hx (by simpa [refsC] using ho)) | simp at ho
      · split at ho <;> first | (rename_i hx; exact key (by simp [QOp.opds]) hx (by simpa [refsC] using ho)) | simp at ho
      · split at ho <;> first | (rename_i hx; exact key (by simp [QOp.opds]) hx (by simpa [refsC] using ho)) | simp at ho
      · split at ho <;> first | (rename_i hx; exact key (by simp [QOp.opds]) hx (by simpa [refsC] using ho)) | simp at ho
    rw [h1, evQ_H hlook] at h
    split at h
    · rename_i v ob' hev
      refine ⟨?_, ?_⟩
      · intro o ho _
        exact addO_ne (fun e => ho (by rw [e, hide]))
      · rw [← addO_addO hne]; exact h
    · exact h
  | sto n p x =>
    simp only [opK0] at h ⊢
    have e1 : ev T1 p = ev T p := hT p (by simp [EK.opds])
    have e2 : ev T1 x = ev T x := hT x (by simp [EK.opds])
    rw [e1, e2] at h
    split at h
    · rename_i pc cs hp hx
      rw [stoAt_add (hnr (by simp [EK.opds]) hp)] at h
      split at h
      · rename_i i ob' hs
        have hi := stoAt_ref hs
        have hiz : i ≠ idz := by rintro rfl; exact hnr (by simp [EK.opds]) hp hi
        refine ⟨h.1, hok _ h.2.1, ?_, ?_⟩
        · intro o _ hno
          exact upd_ne _ _ _ (fun e => hno (by rw [e]; exact hok _ h.2.1))
        · rw [← addO_upd hiz]; exact h.2.2
      · exact h
    · exact h
  | app ty es bytes s x =>
    simp only [opK0] at h ⊢
    have e1 : ev T1 s = ev T s := hT s (by simp [EK.opds])
    have e2 : ev T1 x = ev T x := hT x (by simp [EK.opds])
    rw [e1, e2] at h
    split at h
    · rename_i sc xc hs hx
      rw [baseOf_add (hnr (by simp [EK.opds]) hs), elems2_add (hnr (by simp [EK.opds]) hx)] at h
      split at h
      · rename_i old xs ys hb hy
        have hold : ∀ o, old = some o → o ≠ idz := by
          rintro o ho rfl
          exact hnr (by simp [EK.opds]) hs (baseOf_ref hb o ho).1
        refine ⟨h.1, fun o ho => hok _ (h.2.1 o ho), ?_, ?_⟩
        · intro o hlive hno
          rw [upd_ne _ _ _ (fun e => hlive (by rw [e, hide]))]
          cases old with
          | none => rfl
          | some oo => exact upd_ne _ _ _ (fun e => hno (by rw [e]; exact hok _ (h.2.1 oo rfl)))
        · rw [← addO_upd hne, ← addO_dropO (fun e => by cases old with | none => simp at e | some oo => exact hold oo rfl (Option.some.inj e))]
          exact h.2.2
      · exact h
    · exact h
  | cpy es d s =>
    simp only [opK0] at h ⊢
    have e1 : ev T1 d = ev T d := hT d (by simp [EK.opds])
    have e2 : ev T1 s = ev T s := hT s (by simp [EK.opds])
    rw [e1, e2] at h
    split at h
    · rename_i dc xc hd hx
      rw [elems2_add (hnr (by simp [EK.opds]) hx)] at h
      split at h
      · rename_i ys hy
        rw [cpyAt_add (hnr (by simp [EK.opds]) hd)] at h
        split at h
        · rename_i i ob' n hs
          have hi := cpyAt_ref hs
          have hiz : i ≠ idz := by rintro rfl; exact hnr (by simp [EK.opds]) hd hi
          refine ⟨hok _ h.1, ?_, ?_⟩
          · intro o _ hno
            exact upd_ne _ _ _ (fun e => hno (by rw [e]; exact hok _ h.1))
          · rw [← addO_upd hiz]; exact h.2
        · exact h
      · exact h
    · exact h
  | call f args =>
    simp only [opK0] at h ⊢
    have e1 : args.map (ev T1) = args.map (ev T) := List.map_congr_left hT
    rw [e1] at h
    have hfm : (args.map (ev T)).flatMap refsV = (EK.call f args).opds.flatMap fun x => refsV (ev T x) := by simp [EK.opds, List.flatMap_map]
    exact ECallAt.mono hok (fun _ _ h => ⟨fun o h1 h2 => h.1 o h1 (fun h3 => h2 (hok _ h3)), h.2⟩) (ECallAt_add (by rw [hfm]; exact hnew) hr hfree h)
  | clo x args =>
    simp only [opK0] at h ⊢
    have e0 : ev T1 x = ev T x := hT x (by simp [EK.opds])
    have e1 : args.map (ev T1) = args.map (ev T) := List.map_congr_left (fun y hy => hT y (by simp [EK.opds, hy]))
    rw [e0, e1] at h
    split at h
    · rename_i f caps hx
      have hfm : ∀ o, o ∈ reach H ((args.map (ev T) ++ caps.map fun p => EV.v (.c (.ptr p.1 p.2))).flatMap refsV) → o ∈ reach H ((EK.clo x args).opds.flatMap fun x => refsV (ev T x)) := by
        have mono : ∀ {l l' : List Nat}, (∀ o ∈ l, o ∈ l') → ∀ o ∈ stepR H l, o ∈ stepR H l' := by
          intro l l' hl o ho
          unfold stepR at *
          rcases List.mem_append.1 ho with h | h
          · exact List.mem_append_left _ (hl o h)
          · obtain ⟨a, ha, hao⟩ := List.mem_flatMap.1 h
            exact List.mem_append_right _ (List.mem_flatMap.2 ⟨a, hl a ha, hao⟩)
        have base : ∀ o, o ∈ ((args.map (ev T) ++ caps.map fun p => EV.v (.c (.ptr p.1 p.2))).flatMap refsV) → o ∈ ((EK.clo x args).opds.flatMap fun x => refsV (ev T x)) := by
          intro o ho
          rw [List.flatMap_append] at ho
          simp only [EK.opds, List.flatMap_cons]
          rcases List.mem_append.1 ho with h | h
          · refine List.mem_append_right _ ?_
            rw [List.flatMap_map] at h
            exact h
          · refine List.mem_append_left _ ?_
            rw [← refs_asC hx]
            obtain ⟨a, ha, hao⟩ := List.mem_flatMap.1 h
            obtain ⟨p, hp, rfl⟩ := List.mem_map.1 ha
            simp [refsV, refsT, refsC] at hao
            subst hao
            simp only [refsC, List.mem_map]
            exact ⟨p, hp, rfl⟩
        exact mono (mono (mono base))
      exact ⟨h.1, ECallAt.mono hok (fun _ _ h => ⟨fun o h1 h2 => h.1 o h1 (fun h3 => h2 (hok _ h3)), h.2⟩) (ECallAt_add (fun e => hnew (hfm _ e)) hr hfree h.2)⟩
    · exact h
  | nild neg x =>
    simp only [opK0] at h ⊢
    have e1 : ev T1 x = ev T x := hT x (by simp [EK.opds])
    rw [e1] at h
    split at h
    · rename_i c hx
      have hnl : nilLen (addO H idz ob) c = nilLen H c := by
        cases c with
        | row o len =>
          have ho : o ≠ idz := by rintro rfl; exact hnr (by simp [EK.opds]) hx (by simp [refsC])
          simp only [nilLen, addO_ne ho]
        | _ => simp only [nilLen]
      rw [hnl] at h
      split at h
      · exact ⟨fun e => ⟨by simp, h.1 e⟩, fun e => ⟨by simp, h.2 e⟩⟩
      · exact h
    · exact h
  | mrk x =>
    simp only [opK0] at h ⊢
    have e1 : ev T1 x = ev T x := hT x (by simp [EK.opds])
    rw [e1] at h
    split at h
    · rename_i c hx
      have hnl : rowOf (addO H idz ob) c = rowOf H c := by
        cases c with
        | row o len =>
          have ho : o ≠ idz := by rintro rfl; exact hnr (by simp [EK.opds]) hx (by simp [refsC])
          simp only [rowOf, addO_ne ho]
        | _ => simp only [rowOf]
      rw [hnl] at h
      split at h
      · rename_i o xs hro
        have hoz : o ≠ idz := by
          rintro rfl
          refine hnr (by simp [EK.opds]) hx ?_
          cases c with
          | row o' len =>
            simp only [rowOf] at hro
            split at hro
            · split at hro
              · simp only [Option.some.injEq, Prod.mk.injEq] at hro
                simp [refsC, hro.1]
              · simp at hro
            · simp at hro
          | _ => simp [rowOf] at hro
        refine ⟨hok _ h.1, ?_, ?_⟩
        · intro o' _ hno
          exact upd_ne _ _ _ (fun e => hno (by rw [e]; exact hok _ h.1))
        · have e2 : addO (upd H o none) idz ob = upd (addO H idz ob) o none := by
            cases ob with
            | none => rfl
            | some x0 =>
              funext j
              simp only [addO, upd]
              by_cases q1 : j = idz
              · subst q1; simp [Ne.symm hoz]
              · by_cases q2 : j = o
                · subst q2; simp [q1]
                · simp [q1, q2]
          rw [e2]; exact h.2
      · exact h
    · exact h
  | mp mk xs =>
    simp only [opK0] at h ⊢
    have hmp : ∀ x ∈ xs, (asC (ev T x)).bind (mpOf (addO H idz ob)) = (asC (ev T x)).bind (mpOf H) := by
      intro x hx
      cases hc : asC (ev T x) with
      | none => rfl
      | some c =>
        simp only [Option.bind_some]
        cases c with
        | mp o =>
          have ho : o ≠ idz := by rintro rfl; exact hnr (by simpa [EK.opds] using hx) hc (by simp [refsC])
          simp only [mpOf, addO_ne ho]
        | _ => rfl
    have hmo : ∀ {x : Opd} {r : Nat × List (Nat × IntKind) × List (List Int × Value)}, x ∈ xs → (asC (ev T x)).bind (mpOf H) = some r → r.1 ≠ idz := by
      intro x r hx hr'
      obtain ⟨c, hc, hm⟩ := bind_some' hr'
      cases c with
      | mp o =>
        simp only [mpOf] at hm
        split at hm
        · obtain rfl := Option.some.inj hm
          rintro rfl
          exact hnr (by simpa [EK.opds] using hx) hc (by simp [refsC])
        · simp at hm
      | _ => simp [mpOf] at hm
    have e1 : ∀ x ∈ xs, ev T1 x = ev T x := fun x hx => hT x (by simpa [EK.opds] using hx)
    unfold opM at h ⊢
    split at h
    · refine ⟨?_, ?_⟩
      · intro o hlive _
        exact upd_ne _ _ _ (fun e => hlive (by rw [e, hide]))
      · rw [← addO_upd hne]; exact h
    · rename_i x
      rw [e1 x (by simp), hmp x (by simp)] at h
      split at h
      · exact ⟨by simp, h⟩
      · exact h
    · rename_i rs zq x k
      rw [e1 x (by simp), e1 k (by simp), hmp x (by simp)] at h
      split at h
      · rename_i r ks hr' hks
        refine ⟨hok _ h.1, h.2.1, ?_, ?_⟩
        · intro o _ hno
          exact upd_ne _ _ _ (fun e => hno (by rw [e]; exact hok _ h.1))
        · rw [← addO_upd (hmo (by simp) hr')]; exact h.2.2
      · exact h
    · rename_i x k v
      rw [e1 x (by simp), e1 k (by simp), e1 v (by simp), hmp x (by simp)] at h
      split at h
      · rename_i r n u hr' hn hu
        refine ⟨hok _ h.1, h.2.1, ?_, ?_⟩
        · intro o _ hno
          exact upd_ne _ _ _ (fun e => hno (by rw [e]; exact hok _ h.1))
        · rw [← addO_upd (hmo (by simp) hr')]; exact h.2.2
      · exact h
    · exact h
  | fz k => exact h.elim
  | bad => exact h.elim
theorem fzMV_cst (H : Nat → Option EO) (d : List Nat) (v : Value) : fzMV H d (cst v) = cst v := by
  unfold cst
  split
  · split
    · simp [fzMV, fzMT, litc, fzM]
    · rfl
  · rfl
  · split <;> rfl
  · rfl
theorem ev_fz (H : Nat → Option EO) (d : List Nat) (T : List EV) (x : Opd) : ev (T.map (fzMV H d)) x = fzMV H d (ev T x) := by
  cases x with
  | k v => exact (fzMV_cst H d v).symm
  | t i =>
    simp only [ev, nth_eq, List.getElem?_map]
    cases T[i]? <;> rfl
theorem fz_refs (H : Nat → Option EO) (d : List Nat) (e : EV) : ∀ o ∈ refsV (fzMV H d e), o ∈ refsV e := by
  have h1 : ∀ c, ∀ o ∈ refsC (fzM H d c), o ∈ refsC c := by
    intro c o ho
    cases c with
    | row o' len =>
      simp only [fzM] at ho
      split at ho
      · split at ho
        · simp [refsC] at ho
        · exact ho
      · exact ho
    | _ => exact ho
  have h2 : ∀ t, ∀ o ∈ refsT (fzMT H d t), o ∈ refsT t := by
    intro t o ho
    cases t with
    | c x => exact h1 x o ho
    | agg cs =>
      simp only [fzMT, refsT, List.flatMap_map, List.mem_flatMap] at ho ⊢
      obtain ⟨c, hc, hm⟩ := ho
      exact ⟨c, hc, h1 c o hm⟩
  intro o ho
  cases e with
  | v t => exact h2 t o ho
  | tup ts =>
    simp only [fzMV, refsV, List.flatMap_map, List.mem_flatMap] at ho ⊢
    obtain ⟨t, ht, hm⟩ := ho
    exact ⟨t, ht, h2 t o hm⟩
  | any => exact ho
theorem dead_refs {k : EK} {T : List EV} {H : Nat → Option EO} : ∀ o ∈ deadK k T H, o ∈ k.opds.flatMap fun x => refsV (ev T x) := by
  have rv : ∀ e, ∀ o ∈ rowsV e, o ∈ refsV e := by
    intro e o ho
    have h1 : ∀ c, ∀ o ∈ rowsE c, o ∈ refsC c := by
      intro c o ho
      cases c <;> simp [rowsE] at ho
      subst ho; simp [refsC]
    unfold rowsV at ho
    split at ho
    · exact h1 _ o ho
    · obtain ⟨c, hc, hm⟩ := List.mem_flatMap.1 ho
      exact List.mem_flatMap.2 ⟨c, hc, h1 c o hm⟩
    · simp at ho
  intro o ho
  have ho := (List.mem_filter.1 ho).1
  obtain ⟨e, he, ho⟩ := List.mem_flatMap.1 ho
  unfold dataK at he
  split at he
  · rename_i ps
    obtain ⟨p, hp, rfl⟩ := List.mem_map.1 he
    exact List.mem_flatMap.2 ⟨p.2, by simp only [EK.opds, QOp.opds]; exact List.mem_map.2 ⟨p, hp, rfl⟩, rv _ o ho⟩
  · split at he
    · obtain rfl := List.mem_singleton.1 he
      exact List.mem_flatMap.2 ⟨_, by simp only [EK.opds]; exact List.mem_cons_of_mem _ (List.mem_singleton.2 rfl), rv _ o ho⟩
    · simp at he
  · simp at he
theorem dead_add {k : EK} {T T1 : List EV} {H : Nat → Option EO} {id : Nat} {ob : Option EO} (hT : ∀ x ∈ k.opds, ev T1 x = ev T x) (hnew : id ∉ k.opds.flatMap fun x => refsV (ev T x)) : deadK k T1 (addO H id ob) = deadK k T H := by
  have hd : dataK k T1 = dataK k T := by
    cases k with
    | q qq =>
      cases qq with
      | bsl es z len ps =>
        simp only [dataK]
        exact List.map_congr_left fun p hp => hT p.2 (by simp only [EK.opds, QOp.opds]; exact List.mem_map.2 ⟨p, hp, rfl⟩)
      | _ => rfl
    | sto n p x => simp only [dataK, hT p (by simp [EK.opds]), hT x (by simp [EK.opds])]
    | _ => rfl
  have h0 : ∀ o ∈ (dataK k T).flatMap rowsV, o ≠ id := by
    rintro o ho rfl
    refine hnew ?_
    by_cases hr : isRow H o = true
    · exact dead_refs o (List.mem_filter.2 ⟨ho, hr⟩)
    · have := dead_refs (k := k) (T := T) (H := fun _ => some (.row 0 0 [])) o (List.mem_filter.2 ⟨ho, rfl⟩)
      exact this
  unfold deadK
  rw [hd]
  refine List.filter_congr fun o ho => ?_
  unfold isRow
  rw [addO_ne (h0 o ho)]
theorem opK_swap {P : Program} {k : EK} {ide idz : Nat} {ob : Option EO} {ok ok1 : Nat → Prop} {K : EV → (Nat → Option EO) → Prop} {T T1 : List EV} {H : Nat → Option EO}
    (hT : ∀ x ∈ k.opds, ev T1 x = ev T x) (hnew : idz ∉ reach H (k.opds.flatMap fun x => refsV (ev T x))) (hfree : ∀ j, j < 16 → H (ide + j) = none) (hr : ¬ (ide ≤ idz ∧ idz < ide + 16)) (hok : ∀ i, ok1 i → ok i)
    (h : opK P k ide ok1 K T1 (addO H idz ob)) :
    opK P k ide ok (fun v H' => (∀ o, H o ≠ none → ¬ ok o → H' o = H o) ∧ K v (addO H' idz ob)) T H := by
  cases k with
  | fz k =>
    have hn0 : idz ∉ k.opds.flatMap fun x => refsV (ev T x) := fun e => hnew (reach_sub _ e)
    have hdead := dead_add (k := k) (T := T) (T1 := T1) (H := H) (ob := ob) hT hn0
    obtain ⟨h1, h2⟩ := h
    rw [hdead] at h1 h2
    obtain ⟨d, hd⟩ : ∃ d, deadK k T H = d := ⟨_, rfl⟩
    rw [hd] at h1 h2 hdead
    have hidd : idz ∉ d := by
      intro e
      rw [← hd] at e
      exact hn0 (dead_refs _ e)
    have hH : rmv (addO H idz ob) d = addO (rmv H d) idz ob := by
      cases ob with
      | none => rfl
      | some x =>
        funext o
        simp only [rmv, addO, upd]
        split
        · rename_i ho
          rw [if_neg (by rintro rfl; exact hidd ho)]
        · rfl
    rw [hH] at h2
    have hfz : ∀ c, fzM (addO H idz ob) d c = fzM H d c := by
      intro c
      cases c with
      | row o len =>
        simp only [fzM]
        split
        · rename_i ho
          rw [addO_ne (by rintro rfl; exact hidd ho)]
        · rfl
      | _ => rfl
    have hfm : ∀ e, fzMV (addO H idz ob) d e = fzMV H d e := by
      have ht : ∀ t, fzMT (addO H idz ob) d t = fzMT H d t := by
        intro t
        cases t with
        | c x => simp only [fzMT, hfz]
        | agg cs => simp only [fzMT]; congr 1; exact List.map_congr_left fun c _ => hfz c
      intro e
      cases e with
      | v t => simp only [fzMV, ht]
      | tup ts => simp only [fzMV]; congr 1; exact List.map_congr_left fun t _ => ht t
      | any => rfl
    have hsub : ∀ {l l' : List Nat}, (∀ o ∈ l, o ∈ l') → ∀ o ∈ stepR (rmv H d) l, o ∈ stepR H l' := by
      intro l l' hl o ho
      unfold stepR at *
      rcases List.mem_append.1 ho with h | h
      · exact List.mem_append_left _ (hl o h)
      · obtain ⟨a, ha, hao⟩ := List.mem_flatMap.1 h
        refine List.mem_append_right _ (List.mem_flatMap.2 ⟨a, hl a ha, ?_⟩)
        unfold refsAt rmv at hao
        unfold refsAt
        by_cases e : a ∈ d
        · simp [e] at hao
        · simpa [e] using hao
    show (∀ o ∈ deadK k T H, ok o) ∧ opK0 P k ide ok _ (T.map (fzMV H (deadK k T H))) (rmv H (deadK k T H))
    rw [hd]
    refine ⟨fun o ho => hok o (h1 o ho), ?_⟩
    have := opK0_swap (k := k) (ide := ide) (idz := idz) (ob := ob) (ok := ok) (ok1 := ok1) (K := K) (T := T.map (fzMV H d)) (T1 := T1.map (fzMV (addO H idz ob) d)) (H := rmv H d)
      (fun x hx => by rw [ev_fz, ev_fz, hT x hx, hfm])
      (fun e => hnew (hsub (hsub (hsub (fun o ho => by
        obtain ⟨x, hx, hm⟩ := List.mem_flatMap.1 ho
        rw [ev_fz] at hm
        exact List.mem_flatMap.2 ⟨x, hx, fz_refs _ _ _ o hm⟩))) _ e))
      (fun j hj => by unfold rmv; split <;> first | rfl | exact hfree j hj) hr hok h2
    refine opK0.mono (fun i h => h) ?_ this
    rintro v H' ⟨q1, q2⟩
    refine ⟨fun o ho hno => ?_, q2⟩
    have hod : o ∉ d := fun e => hno (hok o (h1 o e))
    have hro : rmv H d o = H o := if_neg hod
    rw [q1 o (by rw [hro]; exact ho) hno, hro]
  | _ => simp only [opK] at h ⊢; exact opK0_swap hT hnew hfree hr hok h
def quietAt (e : EOp) (n : Nat) (T : List EV) (H : Nat → Option EO) (v : EV) (ob : Option EO) : Prop :=
  (gdOK e.gd T = some false ∧ v = .tup [] ∧ ob = none) ∨ (gdOK e.gd T = some true ∧ ∃ qq, e.k = .q qq ∧ evQ qq T H (n + 16 * e.i) = some (v, ob))
theorem quiet_opT {P : Program} {n : Nat} {e : EOp} {lg : List (Nat × List Nat)} {K : List EV → (Nat → Option EO) → Prop} {T : List EV} {H : Nat → Option EO} (hq : e.k.quiet = true) :
    opT P n e lg K T H ↔ ∃ v ob, quietAt e n T H v ob ∧ K (setD T e.dst v) (addO H (n + 16 * e.i) ob) := by
  obtain ⟨qq, hqq⟩ : ∃ qq, e.k = .q qq := by
    cases hk : e.k with
    | q qq => exact ⟨qq, rfl⟩
    | _ => rw [hk] at hq; simp [EK.quiet] at hq
  unfold opT quietAt
  constructor
  · intro h
    split at h
    · exact h.elim
    · rename_i hg; exact ⟨_, none, .inl ⟨hg, rfl, rfl⟩, h⟩
    · rename_i hg
      rw [hqq] at h
      simp only [opK, opK0] at h
      split at h
      · rename_i v ob hev; exact ⟨v, ob, .inr ⟨hg, qq, hqq, hev⟩, h⟩
      · exact h.elim
  · rintro ⟨v, ob, ⟨hg, rfl, rfl⟩ | ⟨hg, q', hq', hev⟩, hK⟩
    · rw [hg]; exact hK
    · rw [hg, hq']
      simp only [opK, opK0, hev]
      exact hK
theorem opK_quiet {P : Program} {k : EK} {id : Nat} {ok ok' : Nat → Prop} {K : EV → (Nat → Option EO) → Prop} {T : List EV} {H : Nat → Option EO} (hq : k.quiet = true) (h : opK P k id ok K T H) : opK P k id ok' K T H := by
  cases k with
  | q qq => exact h
  | _ => simp [EK.quiet] at hq
theorem opT_swap {P : Program} {n : Nat} {z e : EOp} {lg : List (Nat × List Nat)} {K : List EV → (Nat → Option EO) → Prop} {T : List EV} {H : Nat → Option EO}
    (hz : z.k.quiet = true) (hne : z.i ≠ e.i) (hu : unrel z e = true) (huz : e.k.quiet = true ∨ z.i ∈ e.uz)
    (hnew : (n + 16 * z.i) ∉ reach H (e.refs T)) (hfree : ∀ k, k < 16 → H (n + 16 * e.i + k) = none)
    (h : opT P n z lg (fun T1 H1 => opT P n e ((z.i, z.k.looks T) :: lg) K T1 H1) T H) :
    opT P n e lg (fun T' H' => z.k.looks T' = z.k.looks T ∧ opT P n z lg K T' H') T H := by
  obtain ⟨hu1, hu2, hu3⟩ := unrel_spec hu
  obtain ⟨v, ob, hqz, hK⟩ := (quiet_opT hz).1 h
  have hT : ∀ x ∈ e.k.opds, ev (setD T z.dst v) x = ev T x := evs_setD (tmps_k hu1)
  have hlive : ∀ o ∈ z.k.looks T, (gdOK z.gd T = some true) → H o ≠ none := by
    intro o ho hg
    rcases hqz with ⟨hg', _⟩ | ⟨_, qq, hqq, hev⟩
    · rw [hg] at hg'; simp at hg'
    · rw [hqq] at ho
      exact evQ_live hev o ho
  -- what z does behind e
  have back : ∀ (u : EV) (H' : Nat → Option EO), (∀ o ∈ z.k.looks T, gdOK z.gd T = some true → H' o = H o) → K (setD (setD T z.dst v) e.dst u) (addO H' (n + 16 * z.i) ob) →
      z.k.looks (setD T e.dst u) = z.k.looks T ∧ opT P n z lg K (setD T e.dst u) H' := by
    intro u H' hH' hK'
    refine ⟨looks_setD hu3, (quiet_opT hz).2 ⟨v, ob, ?_, ?_⟩⟩
    · rcases hqz with ⟨hg, h1, h2⟩ | ⟨hg, qq, hqq, hev⟩
      · exact .inl ⟨by rw [gd_setD hu3]; exact hg, h1, h2⟩
      · refine .inr ⟨by rw [gd_setD hu3]; exact hg, qq, hqq, ?_⟩
        have h1 : evQ qq (setD T e.dst u) H' (n + 16 * z.i) = evQ qq T H' (n + 16 * z.i) := by
          refine evQ_T ?_
          have := evs_setD (T := T) (v := u) (tmps_k hu3)
          rw [hqq] at this
          exact this
        rw [h1, evQ_H (H' := H), hev]
        intro o ho
        exact hH' o (by rw [hqq]; exact ho) hg
    · rw [← setD_comm hu2]; exact hK'
  unfold opT at hK ⊢
  rw [gd_setD hu1] at hK
  split at hK
  · exact hK.elim
  · exact back _ H (fun _ _ _ => rfl) hK
  · by_cases hq : e.k.quiet = true
    · have hK1 := opK_quiet (ok' := fun _ => False) hq hK
      have hsw := opK_swap (P := P) (k := e.k) (ide := n + 16 * e.i) (idz := n + 16 * z.i) (ob := ob) (ok := fun _ => False) (T := T) (H := H) hT hnew hfree (by omega) (fun i hi => hi) hK1
      refine opK.mono (fun i hi => hi.elim) ?_ hsw
      rintro u H' ⟨hkeep, hK'⟩
      exact back u H' (fun o ho hg => hkeep o (hlive o ho hg) (fun h => h)) hK'
    · have hzu : z.i ∈ e.uz := huz.resolve_left hq
      have hsw := opK_swap (P := P) (k := e.k) (ide := n + 16 * e.i) (idz := n + 16 * z.i) (ob := ob) (ok := fun i => Wok lg e.uz i ∧ i ∉ z.k.looks T) (T := T) (H := H) hT hnew hfree (by omega)
        (fun i hi => ⟨fun p hp => hi p (List.mem_cons_of_mem _ hp), hi (z.i, z.k.looks T) (List.mem_cons_self ..) hzu⟩) hK
      refine opK.mono (fun i hi => hi.1) ?_ hsw
      rintro u H' ⟨hkeep, hK'⟩
      exact back u H' (fun o ho hg => hkeep o (hlive o ho hg) (fun hc => hc.2 ho)) hK'
def entPass (z e : EOp) : Bool := match z.gd, e.gd, z.k, e.k with
  | none, none, .q (.mget _ z1 _ _), .mp (.ent _ z2) _ => decide (z1 = z2)
  | _, _, _, _ => false
theorem getM_ent {z : Value} {k k' : List Int} : ∀ {l : List (List Int × Value)}, getM z k (entM z k' l) = getM z k l
  | [] => by
    by_cases h : k' = k <;> simp [entM, getM, h]
  | p :: r => by
    by_cases h : p.1 = k'
    · simp only [entM, if_pos h]
    · by_cases h2 : p.1 = k
      · simp only [entM, if_neg h, getM, if_pos h2]
      · simp only [entM, if_neg h, getM, if_neg h2]
        exact getM_ent
theorem opT_ent {P : Program} {n : Nat} {z e : EOp} {lg : List (Nat × List Nat)} {K : List EV → (Nat → Option EO) → Prop} {T : List EV} {H : Nat → Option EO}
    (hep : entPass z e = true) (hu : unrel z e = true) (huz : z.i ∉ e.uz)
    (h : opT P n z lg (fun T1 H1 => opT P n e ((z.i, z.k.looks T) :: lg) K T1 H1) T H) :
    opT P n e lg (fun T' H' => z.k.looks T' = z.k.looks T ∧ opT P n z lg K T' H') T H := by
  obtain ⟨hu1, hu2, hu3⟩ := unrel_spec hu
  obtain ⟨zi, zd, zg, zk, zuz⟩ := z
  obtain ⟨ei, ed, eg, ek, euz⟩ := e
  unfold entPass at hep
  dsimp only at hep hu1 hu2 hu3 huz h ⊢
  split at hep
  · rename_i rs1 z1 x1 k1 rs2 z2 xs
    have hz12 : z1 = z2 := of_decide_eq_true hep
    subst hz12
    simp only [opT, gdOK, opK, opK0] at h ⊢
    split at h
    · rename_i v ob hev
      have hT : ∀ x ∈ xs, ev (setD T zd v) x = ev T x := evs_setD (l := xs) (tmps_k (e := ⟨ei, ed, none, .mp (.ent rs2 z1) xs, euz⟩) hu1)
      unfold opM at h ⊢
      simp only [evQ] at hev
      replace hev := bind_some' hev; obtain ⟨c, h1, hev⟩ := hev
      replace hev := bind_some' hev; obtain ⟨q, h2, hev⟩ := hev
      replace hev := bind_some' hev; obtain ⟨cs, h3, hev⟩ := hev
      replace hev := bind_some' hev; obtain ⟨ns, h4, hev⟩ := hev
      split at hev
      · rename_i hr
        simp only [Option.some.injEq, Prod.mk.injEq] at hev
        obtain ⟨rfl, rfl⟩ := hev
        simp only [addO] at h
        split at h
        · simp at *
        · simp at *
        · rename_i rs2' z1' x k he
          simp only [MOp.ent.injEq] at he
          obtain ⟨rfl, rfl⟩ := he
          rw [hT x (by simp), hT k (by simp)] at h
          simp only
          split at h
          · rename_i r ms hr' hms
            obtain ⟨g1, g2, g3⟩ := h
            refine ⟨?_, g2, looks_setD (e := ⟨zi, zd, none, .q (.mget rs1 z1 x1 k1), zuz⟩) hu3, ?_⟩
            · intro p hp hpu
              exact g1 p (List.mem_cons_of_mem _ hp) hpu
            · have hT2 := evs_setD (T := T) (v := EV.tup [.c (.fz (.lit (getM (.int z1 0) ms r.2.2))), .c (.fz (.lit (.int .i64 (idxM ms r.2.2 : Int))))]) (l := [x1, k1]) (tmps_k (e := ⟨zi, zd, none, .q (.mget rs1 z1 x1 k1), zuz⟩) hu3)
              have ex : ev (setD T ed (EV.tup [.c (.fz (.lit (getM (.int z1 0) ms r.2.2))), .c (.fz (.lit (.int .i64 (idxM ms r.2.2 : Int))))])) x1 = ev T x1 := hT2 x1 (by simp)
              have ek : ev (setD T ed (EV.tup [.c (.fz (.lit (getM (.int z1 0) ms r.2.2))), .c (.fz (.lit (.int .i64 (idxM ms r.2.2 : Int))))])) k1 = ev T k1 := hT2 k1 (by simp)
              simp only [evQ, ex, ek, h1, h3, Option.bind_some, h4]
              have hmp : mpOf (upd H r.1 (some (.mp rs2 (entM (.int z1 0) ms r.2.2)))) c = some (q.1, q.2.1, if q.1 = r.1 then entM (.int z1 0) ms r.2.2 else q.2.2) ∧ (q.1 = r.1 → q.2.2 = r.2.2) := by
                cases c with
                | mp o =>
                  simp only [mpOf] at h2 ⊢
                  split at h2
                  · rename_i rs' es' hH
                    obtain rfl := Option.some.inj h2
                    obtain ⟨c', hc', hm'⟩ := bind_some' hr'
                    cases c' with
                    | mp o' =>
                      simp only [mpOf] at hm'
                      split at hm'
                      · rename_i rs'' es'' hH'
                        obtain rfl := Option.some.inj hm'
                        dsimp only at g2 ⊢
                        by_cases hoo : o = o'
                        · subst hoo
                          rw [hH] at hH'
                          simp only [Option.some.injEq, EO.mp.injEq] at hH'
                          obtain ⟨rfl, rfl⟩ := hH'
                          subst g2
                          simp [upd_same]
                        · rw [upd_ne _ _ _ hoo, hH]
                          simp [hoo]
                      · simp at hm'
                    | _ => simp [mpOf] at hm'
                  · simp at h2
                | _ => simp [mpOf] at h2
              obtain ⟨m1, m2⟩ := hmp
              simp only [m1, Option.bind_some, if_pos hr]
              have hgm : getM (.int z1 0) ns (if q.1 = r.1 then entM (.int z1 0) ms r.2.2 else q.2.2) = getM (.int z1 0) ns q.2.2 := by
                split
                · rename_i e; rw [getM_ent, m2 e]
                · rfl
              rw [hgm]
              rw [← setD_comm hu2]
              exact g3
          · exact h.elim
        · simp at *
        · exact h.elim
      · simp at hev
    · exact h.elim
  · simp at hep
def Pass (l : List EOp) (e : EOp) : Prop := ∀ z ∈ l, z.k.quiet = true ∧ z.i ≠ e.i ∧ unrel z e = true ∧ ((e.k.quiet = true ∨ z.i ∈ e.uz) ∨ (entPass z e = true ∧ z.i ∉ e.uz))
theorem chain_lg {P : Program} {n : Nat} {K : List EV → (Nat → Option EO) → Prop} {l : List EOp} {lg lg' : List (Nat × List Nat)} {T : List EV} {H : Nat → Option EO} (hl : ∀ p ∈ lg', p ∈ lg) (h : chain P n l lg K T H) : chain P n l lg' K T H :=
  chain.mono (fun _ _ h => h) hl h
theorem front {P : Program} {n : Nat} {e : EOp} {K : List EV → (Nat → Option EO) → Prop} {l2 : List EOp} : ∀ {l1 : List EOp} {lg : List (Nat × List Nat)} {T : List EV} {H : Nat → Option EO}, Pass l1 e →
    (∀ z ∈ l1, (n + 16 * z.i) ∉ reach H (e.refs T)) → (∀ k, k < 16 → H (n + 16 * e.i + k) = none) → chain P n (l1 ++ e :: l2) lg K T H →
    opT P n e lg (fun T' H' => chain P n (l1 ++ l2) ((e.i, e.k.looks T) :: lg) K T' H') T H
  | [], lg, T, H, _, _, _, h => h
  | z :: r, lg, T, H, hp, hnew, hfree, h => by
    obtain ⟨hz, hne, hu, huz⟩ := hp z (List.mem_cons_self ..)
    obtain ⟨hu1, hu2, hu3⟩ := unrel_spec hu
    have hzn := hnew z (List.mem_cons_self ..)
    simp only [List.cons_append, chain] at h
    -- the rest, with e at its front
    have h1 : opT P n z lg (fun T1 H1 => opT P n e ((z.i, z.k.looks T) :: lg) (fun T' H' => chain P n (r ++ l2) ((z.i, z.k.looks T) :: (e.i, e.k.looks T) :: lg) K T' H') T1 H1) T H := by
      refine (quiet_opT hz).2 ?_
      obtain ⟨v, ob, hqz, hK⟩ := (quiet_opT hz).1 h
      refine ⟨v, ob, hqz, ?_⟩
      have hrefs : e.refs (setD T z.dst v) = e.refs T := by
        unfold EOp.refs
        have := evs_setD (T := T) (v := v) (tmps_k hu1)
        clear hnew hzn hfree hp
        generalize e.k.opds = l at this
        induction l with
        | nil => rfl
        | cons a t ih =>
          simp only [List.flatMap_cons]
          rw [this a (by simp), ih (fun x hx => this x (by simp [hx]))]
      have hreach : reach (addO H (n + 16 * z.i) ob) (e.refs (setD T z.dst v)) = reach H (e.refs T) := by rw [hrefs]; exact reach_add hzn
      have hfr : ∀ k, k < 16 → addO H (n + 16 * z.i) ob (n + 16 * e.i + k) = none := by
        intro k hk
        rw [addO_ne (by omega)]
        exact hfree k hk
      have ih := front (l2 := l2) (l1 := r) (fun y hy => hp y (List.mem_cons_of_mem _ hy)) (fun y hy => by rw [hreach]; exact hnew y (List.mem_cons_of_mem _ hy)) hfr hK
      rw [looks_setD hu1] at ih
      refine opT.mono (fun p hp => hp) ?_ ih
      intro T' H' hc
      refine chain_lg ?_ hc
      intro p hp
      rcases List.mem_cons.1 hp with rfl | hp
      · exact List.mem_cons_of_mem _ (List.mem_cons_self ..)
      · rcases List.mem_cons.1 hp with rfl | hp
        · exact List.mem_cons_self ..
        · exact List.mem_cons_of_mem _ (List.mem_cons_of_mem _ hp)
    have h2 := huz.elim (fun huz => opT_swap hz hne hu huz hzn hfree h1) (fun huz => opT_ent huz.1 hu huz.2 h1)
    refine opT.mono (fun p hp => hp) ?_ h2
    rintro T' H' ⟨hl, hc⟩
    simp only [List.cons_append, chain]
    rw [hl]
    -- a quiet operation does not look at the log
    obtain ⟨v, ob, hq, hK⟩ := (quiet_opT hz).1 hc
    exact (quiet_opT hz).2 ⟨v, ob, hq, hK⟩
end Go.EW
