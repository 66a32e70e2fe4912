/- A call by a contract: sound. -/
import Derived.Test.YtejjhgdnmknejaaEwJ
namespace Go.EW
open Go

section
variable {P : Program} {w0 : World} {m : Nat} {ρ0 : Nat → Value} {Φ0 : Nat → Prop} {H : Nat → Option EO} {X : Cx} {ids : List Nat}

theorem lt_len {α : Type} {l : List α} {i : Nat} {x : α} (h : l[i]? = some x) : i < l.length := lt_of_get h

structure Into (X C : Cx) (ids : List Nat) : Prop where
  U : ∀ j, j < ids.length → C.U j
  ρ : ∀ (j o : Nat), ids[j]? = some o → C.ρ j = X.ρ o
  Φ : ∀ b, X.Φ b → C.Φ b
  w : C.w = X.w

theorem capsIn_spec {C : Cx} (h : Into X C ids) : ∀ {caps cs : List (Nat × Nat)} {vs : List Value}, capsIn ids caps = some cs →
    All2 (fun (p : Nat × Nat) u => X.U p.1 ∧ ∃ b, X.ρ p.1 = .pointer (some ⟨b, 0, none⟩) ∧ u = .pointer (some ⟨b, p.2, none⟩)) caps vs →
    All2 (fun (p : Nat × Nat) u => C.U p.1 ∧ ∃ b, C.ρ p.1 = .pointer (some ⟨b, 0, none⟩) ∧ u = .pointer (some ⟨b, p.2, none⟩)) cs vs
  | [], cs, vs, hc, ha => by
    simp [capsIn] at hc; subst hc
    obtain rfl := ha.nil_left
    exact All2.nil
  | (o, k) :: r, cs, vs, hc, ha => by
    obtain ⟨u, us, rfl, h1, h2⟩ := ha.cons_left
    simp only [capsIn] at hc
    replace hc := bind_some' hc; obtain ⟨j, hj, hc⟩ := hc
    replace hc := map_some' hc; obtain ⟨cs', hcs, rfl⟩ := hc
    have hj' := idx_some hj
    exact All2.cons ⟨h.U j (lt_len hj'), by rw [h.ρ j o hj']; exact h1.2⟩ (capsIn_spec h hcs h2)

theorem strC_spec {C : Cx} (h : Into X C ids) {x x' : EC} {v : Value} (hs : strC ids x = some x') (k : VR X x v) : VR C x' v := by
  cases x with
  | fz x => simp [strC] at hs; subst hs; exact FR.stable (fun b _ => by rw [h.w]) h.Φ k
  | fptr cs i =>
    simp [strC] at hs; subst hs
    obtain ⟨b, off, hb, hv, vs, hl, hc, hfr⟩ := k
    exact ⟨b, off, h.Φ b hb, hv, vs, hl, fun j u hu => by rw [h.w]; exact hc j u hu, fun j x u hx hu => FR.stable (fun b _ => by rw [h.w]) h.Φ (hfr j x u hx hu)⟩
  | ptr o i =>
    replace hs := map_some' hs; obtain ⟨j, hj, rfl⟩ := hs
    have hj' := idx_some hj
    exact ⟨h.U j (lt_len hj'), by rw [h.ρ j o hj']; exact k.2⟩
  | eptr o es i i' =>
    replace hs := map_some' hs; obtain ⟨j, hj, rfl⟩ := hs
    have hj' := idx_some hj
    exact ⟨h.U j (lt_len hj'), by rw [h.ρ j o hj']; exact k.2⟩
  | row o len =>
    replace hs := map_some' hs; obtain ⟨j, hj, rfl⟩ := hs
    have hj' := idx_some hj
    exact ⟨h.U j (lt_len hj'), by rw [h.ρ j o hj']; exact k.2⟩
  | bsl o i len =>
    replace hs := map_some' hs; obtain ⟨j, hj, rfl⟩ := hs
    have hj' := idx_some hj
    exact ⟨h.U j (lt_len hj'), by rw [h.ρ j o hj']; exact k.2⟩
  | rsl o i len => simp [strC] at hs
  | clo f caps =>
    replace hs := map_some' hs; obtain ⟨cs, hcs, rfl⟩ := hs
    obtain ⟨vs, hv, ha⟩ := k
    exact ⟨vs, hv, capsIn_spec h hcs ha⟩

theorem strAll_spec {C : Cx} (h : Into X C ids) : ∀ {cs cs' : List EC} {vs : List Value}, strAll ids cs = some cs' → All2 (VR X) cs vs → All2 (VR C) cs' vs
  | [], cs', vs, hs, ha => by
    simp [strAll] at hs; subst hs
    obtain rfl := ha.nil_left
    exact All2.nil
  | x :: r, cs', vs, hs, ha => by
    obtain ⟨u, us, rfl, h1, h2⟩ := ha.cons_left
    simp only [strAll] at hs
    replace hs := bind_some' hs; obtain ⟨y, hy, hs⟩ := hs
    replace hs := map_some' hs; obtain ⟨ys, hys, rfl⟩ := hs
    exact All2.cons (strC_spec h hy h1) (strAll_spec h hys h2)

theorem strO_spec {C : Cx} (h : Into X C ids) {x x' : EO} {v : Value} (hs : strO ids x = some x') (k : OR X x v) : OR C x' v := by
  cases x with
  | box ty cs =>
    replace hs := map_some' hs; obtain ⟨ys, hys, rfl⟩ := hs
    obtain ⟨b, c, hv, hh, ha⟩ := k
    exact ⟨b, c, hv, by rw [h.w]; exact hh, strAll_spec h hys ha⟩
  | row ty es xs =>
    simp [strO] at hs; subst hs
    obtain ⟨h0, hl, flat, ho, ha⟩ := k
    exact ⟨h0, hl, flat, by rw [h.w]; exact ho, ha.mono fun _ _ => FR.stable (fun b _ => by rw [h.w]) h.Φ⟩

/-- A slice whose elements are known and whose block may be frozen reads as a frozen one. -/
theorem freeze_fr (r : Rel w0 m ρ0 Φ0 H X) {C : Cx} (hΦ : ∀ b, X.Φ b → C.Φ b) (hw : C.w = X.w) {es : Nat} (h0 : 0 < es) {c : EC} {v : Value} (hv : VR X c v) {xs : List (List FV)} (h : elems2 H es c = some xs)
    (hblk : ∀ b, hb v = some b → xs ≠ [] → C.Φ b) : FR C.Φ C.w (.sl es xs) v := by
  obtain ⟨hl, ad, cap, vs, rfl, hcap, hall, hcell⟩ := elems2_spec r hv h
  by_cases hne : xs = []
  · subst hne
    exact .emp es ad cap
  · obtain ⟨b, off, rfl, hc⟩ := hcell hne
    refine .sl es xs b off cap vs (hblk b rfl hne) h0 hl (by rw [← hall.1, flatten_length hl]) hcap ?_ ?_
    · intro j u hu; rw [hw]; exact hc j u hu
    · intro j x u hx hu
      exact FR.stable (fun b _ => by rw [hw]) hΦ (hall.2 j x u hx hu)

theorem conC_spec (r : Rel w0 m ρ0 Φ0 H X) {C : Cx} (h : Into X C ids) {x x' : EC} {v : Value} (hs : conC H ids x = some x') (hfz : ∀ o ∈ fzC ids x, ∀ y b, H o = some y → hb (X.ρ o) = some b → C.Φ b) (k : VR X x v) : VR C x' v := by
  cases x with
  | fz x => exact strC_spec h (x := .fz x) hs k
  | fptr cs i => exact strC_spec h (x := .fptr cs i) hs k
  | ptr o i => exact strC_spec h (x := .ptr o i) hs k
  | eptr o es i i' => exact strC_spec h (x := .eptr o es i i') hs k
  | clo f caps => exact strC_spec h (x := .clo f caps) hs k
  | row o len =>
    simp only [conC] at hs
    split at hs
    · rename_i j hj
      refine strC_spec h (x := .row o len) ?_ k
      simp only [strC, hj, Option.map_some]
      exact hs
    · rename_i hj
      split at hs
      · rename_i ty es xs hH
        obtain rfl := Option.some.inj hs
        have hor := (r.obj o _ hH).2
        refine freeze_fr r h.Φ h.w hor.1 k (by simp [elems2, elemsOf, hH]) ?_
        intro b hb' _
        refine hfz o (by simp [fzC, hj]) _ b hH ?_
        obtain ⟨_, a, n, cap, hρ, _, _, rfl⟩ := k
        rw [hρ]
        cases a <;> simp_all [hb]
      · simp at hs
  | bsl o i len =>
    simp only [conC] at hs
    split at hs
    · rename_i j hj
      refine strC_spec h (x := .bsl o i len) ?_ k
      simp only [strC, hj, Option.map_some]
      exact hs
    · rename_i hj
      split at hs
      · rename_i ty cs hH
        split at hs
        · rename_i hle
          replace hs := map_some' hs; obtain ⟨fs, hfs, rfl⟩ := hs
          refine freeze_fr r h.Φ h.w (by omega) k (by simp [elems2, hH, hle, hfs]) ?_
          intro b hb' _
          refine hfz o (by simp [fzC, hj]) _ b hH ?_
          obtain ⟨_, b', hρ, cap, _, rfl⟩ := k
          rw [hρ]
          simp [hb] at hb' ⊢
          exact hb'
        · simp at hs
      · simp at hs
  | rsl o i len => simp [conC] at hs

theorem conAll_spec (r : Rel w0 m ρ0 Φ0 H X) {C : Cx} (h : Into X C ids) : ∀ {cs cs' : List EC} {vs : List Value}, conAll H ids cs = some cs' → (∀ o ∈ cs.flatMap (fzC ids), ∀ y b, H o = some y → hb (X.ρ o) = some b → C.Φ b) → All2 (VR X) cs vs → All2 (VR C) cs' vs
  | [], cs', vs, hs, _, ha => by
    simp [conAll] at hs; subst hs
    obtain rfl := ha.nil_left
    exact All2.nil
  | x :: r', cs', vs, hs, hfz, ha => by
    obtain ⟨u, us, rfl, h1, h2⟩ := ha.cons_left
    simp only [conAll] at hs
    replace hs := bind_some' hs; obtain ⟨y, hy, hs⟩ := hs
    replace hs := map_some' hs; obtain ⟨ys, hys, rfl⟩ := hs
    exact All2.cons (conC_spec r h hy (fun o ho => hfz o (by simp [ho])) h1) (conAll_spec r h hys (fun o ho => hfz o (by
      rw [List.flatMap_cons]
      exact List.mem_append_right _ ho)) h2)

theorem conV_spec (r : Rel w0 m ρ0 Φ0 H X) {C : Cx} (h : Into X C ids) {x x' : EV} {v : Value} (hs : conV H ids x = some x') (hfz : ∀ o ∈ fzV ids x, ∀ y b, H o = some y → hb (X.ρ o) = some b → C.Φ b) (k : VV X x v) : VV C x' v := by
  unfold conV at hs
  split at hs
  · replace hs := map_some' hs; obtain ⟨y, hy, rfl⟩ := hs
    exact conC_spec r h hy hfz k
  · replace hs := map_some' hs; obtain ⟨ys, hys, rfl⟩ := hs
    obtain ⟨vs, hv, ha⟩ := k
    exact ⟨vs, hv, conAll_spec r h hys hfz ha⟩
  · simp at hs

theorem conArgs_spec (r : Rel w0 m ρ0 Φ0 H X) {C : Cx} (h : Into X C ids) : ∀ {xs xs' : List EV} {vs : List Value}, conArgs H ids xs = some xs' → (∀ o ∈ xs.flatMap (fzV ids), ∀ y b, H o = some y → hb (X.ρ o) = some b → C.Φ b) → All2 (VV X) xs vs → All2 (VV C) xs' vs
  | [], cs', vs, hs, _, ha => by
    simp [conArgs] at hs; subst hs
    obtain rfl := ha.nil_left
    exact All2.nil
  | x :: r', cs', vs, hs, hfz, ha => by
    obtain ⟨u, us, rfl, h1, h2⟩ := ha.cons_left
    simp only [conArgs] at hs
    replace hs := bind_some' hs; obtain ⟨y, hy, hs⟩ := hs
    replace hs := map_some' hs; obtain ⟨ys, hys, rfl⟩ := hs
    exact All2.cons (conV_spec r h hy (fun o ho => hfz o (by rw [List.flatMap_cons]; exact List.mem_append_left _ ho)) h1) (conArgs_spec r h hys (fun o ho => hfz o (by
      rw [List.flatMap_cons]
      exact List.mem_append_right _ ho)) h2)

theorem objsIn_spec : ∀ {l : List Nat} {Hc : List EO}, objsIn H ids l = some Hc → Hc.length = l.length ∧ ∀ (j o : Nat), l[j]? = some o → ∃ x y, H o = some x ∧ strO ids x = some y ∧ Hc[j]? = some y
  | [], Hc, h => by simp [objsIn] at h; subst h; simp
  | o :: r, Hc, h => by
    simp only [objsIn] at h
    replace h := bind_some' h; obtain ⟨x, hx, h⟩ := h
    replace h := bind_some' h; obtain ⟨y, hy, h⟩ := h
    replace h := map_some' h; obtain ⟨ys, hys, rfl⟩ := h
    obtain ⟨h1, h2⟩ := objsIn_spec hys
    refine ⟨by simp [h1], ?_⟩
    intro j o' hj
    cases j with
    | zero => simp at hj; subst hj; exact ⟨x, y, hx, hy, rfl⟩
    | succ j => simpa using h2 j o' (by simpa using hj)

theorem fz_notin {ids : List Nat} {x : EV} {o : Nat} (h : o ∈ fzV ids x) : o ∉ ids := by
  have key : ∀ c, o ∈ fzC ids c → o ∉ ids := by
    intro c hc
    unfold fzC at hc
    split at hc
    · split at hc
      · simp at hc
      · rename_i hn
        simp at hc; subst hc
        exact idx_none (by simpa using hn)
    · split at hc
      · simp at hc
      · rename_i hn
        simp at hc; subst hc
        exact idx_none (by simpa using hn)
    · simp at hc
  unfold fzV at h
  split at h
  · exact key _ h
  · obtain ⟨c, _, hc⟩ := List.mem_flatMap.1 h
    exact key c hc
  · simp at h

theorem idx_of_get {ids : List Nat} (hnd : ids.Nodup) {j o : Nat} (h : ids[j]? = some o) : idx ids o = some j := by
  obtain ⟨j', hj'⟩ := idx_mem (List.mem_of_getElem? h)
  have h' := idx_some hj'
  have : j = j' := (List.getElem?_inj (lt_len h) hnd).1 (h.trans h'.symm)
  rw [hj', this]

theorem call_sound {f : FuncId} {args args' : List EV} {Hc : List EO} {post : EV → List (Option EO) → Prop} {base : Nat} (hE : ECalls P f args' Hc post)
    (hcon : conArgs H ids args = some args') (hin : objsIn H ids ids = some Hc) (hnd : ids.Nodup) (r : Rel w0 m ρ0 Φ0 H X) {vals : List Value} (hv : All2 (VV X) args vals)
    (hfree : ∀ o, base ≤ o → o < base + 16 → ¬ X.U o) (hm : m ≤ base)
    (hpost : ∀ y H', post y H' → (args.flatMap (fzV ids) = [] ∨ (noSlV y = true ∧ ∀ x, some x ∈ H' → noSlO x = true)) ∧ H'.length ≤ ids.length + 16) :
    Calls P f vals.toArray X.w fun e w' => ∃ y H' v X', e = .returned v ∧ post y H' ∧ X'.w = w' ∧ Rel w0 m ρ0 Φ0 (after H ids base H') X' ∧ Later X X' ∧
      (∀ o, X'.U o ↔ X.U o ∨ (base ≤ o ∧ o < base + (H'.length - ids.length))) ∧ VV X' (renV (rnm ids base) y) v := by
  obtain ⟨hlen, hobj⟩ := objsIn_spec hin
  -- the callee's context
  let ρc : Nat → Value := fun j => X.ρ ((ids[j]?).getD 0)
  let Φc : Nat → Prop := fun b => X.Φ b ∨ ∃ o ∈ args.flatMap (fzV ids), ∃ x, H o = some x ∧ hb (X.ρ o) = some b
  let C : Cx := ⟨fun o => o < Hc.length, ρc, Φc, X.w⟩
  have hinto : Into X C ids := ⟨fun j hj => by show j < Hc.length; omega, fun j o hj => by show X.ρ _ = _; rw [hj]; rfl, fun b hb => .inl hb, rfl⟩
  have hfzn : ∀ o ∈ args.flatMap (fzV ids), o ∉ ids := by
    intro o ho
    obtain ⟨x, _, hx⟩ := List.mem_flatMap.1 ho
    exact fz_notin hx
  have hget : ∀ (j : Nat) (y : EO), Hc[j]? = some y → ∃ o x, ids[j]? = some o ∧ H o = some x ∧ strO ids x = some y := by
    intro j y hj
    have hj' : j < ids.length := by rw [← hlen]; exact lt_len hj
    obtain ⟨x, y', h1, h2, h3⟩ := hobj j ids[j] (by simp [hj'])
    obtain rfl := Option.some.inj (h3.symm.trans hj)
    exact ⟨ids[j], x, by simp [hj'], h1, h2⟩
  have hρc : ∀ (j o : Nat), ids[j]? = some o → ρc j = X.ρ o := hinto.ρ
  have hlive : ∀ o, o ∈ ids → ∃ x, H o = some x := by
    intro o ho
    obtain ⟨j, hj⟩ := List.getElem?_of_mem ho
    obtain ⟨x, _, h1, _⟩ := hobj j o hj
    exact ⟨x, h1⟩
  have hentry : Rel X.w Hc.length ρc Φc (ofL Hc) C := by
    refine ⟨rfl, rfl, rfl, Nat.le_refl _, fun _ _ _ => rfl, fun _ _ => rfl, ?_, ?_, ?_, ?_, ?_, fun b h => .inl h, r.glob.mono (fun b hb => .inl hb) (fun _ _ => rfl)⟩
    · intro j y hj
      obtain ⟨o, x, h1, h2, h3⟩ := hget j y hj
      refine ⟨lt_len hj, ?_⟩
      show OR C y (ρc j)
      rw [hρc j o h1]
      exact strO_spec hinto h3 (r.obj o x h2).2
    · intro j j' y y' b hj hj' e1 e2
      obtain ⟨o, x, h1, h2, _⟩ := hget j y hj
      obtain ⟨o', x', h1', h2', _⟩ := hget j' y' hj'
      have e1' : hb (X.ρ o) = some b := by rw [← hρc j o h1]; exact e1
      have e2' : hb (X.ρ o') = some b := by rw [← hρc j' o' h1']; exact e2
      have := r.inj o o' x x' b h2 h2' e1' e2'
      subst this
      exact (List.getElem?_inj (lt_len h1) hnd).1 (h1.trans h1'.symm)
    · intro j y b hj e1
      exact .inr ⟨j, lt_len hj, e1⟩
    · intro j y b hj e1 hΦ
      obtain ⟨o, x, h1, h2, _⟩ := hget j y hj
      have e1' : hb (X.ρ o) = some b := by rw [← hρc j o h1]; exact e1
      rcases hΦ with hΦ | ⟨o', ho', x', hx', hb'⟩
      · exact r.dis o x b h2 e1' hΦ
      · have := r.inj o o' x x' b h2 hx' e1' hb'
        subst this
        exact hfzn o ho' (List.mem_of_getElem? h1)
    · intro b hΦ
      rcases hΦ with hΦ | ⟨o', ho', x', hx', hb'⟩
      · exact r.fro b hΦ
      · exact ((r.obj o' x' hx').2).lt hb'
  have hargs : All2 (VV C) args' vals := conArgs_spec r hinto hcon (fun o ho y b hy hb' => .inr ⟨o, ho, y, hy, hb'⟩) hv
  refine (hE ρc Φc X.w vals hentry hargs).mono ?_
  rintro e w' ⟨y, H', v, ρ', Φ', rfl, hpo, hle, hvv, hR⟩
  obtain ⟨hal, hmax⟩ := hpost y H' hpo
  -- the caller's context behind the call
  let X' : Cx := ⟨fun o => X.U o ∨ (base ≤ o ∧ o < base + (H'.length - ids.length)), fun o => if base ≤ o ∧ o < base + (H'.length - ids.length) then ρ' (ids.length + (o - base)) else X.ρ o,
    fun b => X.Φ b ∨ (args.flatMap (fzV ids) = [] ∧ Φ' b), w'⟩
  have hnr : ∀ o, X.U o → ¬ (base ≤ o ∧ o < base + (H'.length - ids.length)) := by
    intro o hu ⟨h1, h2⟩
    exact hfree o h1 (by omega) hu
  have hρX : ∀ o, X.U o → X'.ρ o = X.ρ o := fun o hu => if_neg (hnr o hu)
  have hρ'j : ∀ (j o : Nat), ids[j]? = some o → ρ' j = X.ρ o := by
    intro j o hj
    rw [← hρc j o hj]
    exact hR.pin j (by rw [hlen]; exact lt_len hj)
  have hidU : ∀ o, o ∈ ids → X.U o := fun o ho => let ⟨x, hx⟩ := hlive o ho; (r.obj o x hx).1
  have hren : RenCx ⟨fun o => o < H'.length, ρ', Φ', w'⟩ X' (rnm ids base) := by
    refine ⟨?_, ?_, rfl⟩
    · intro j hj
      have hj : j < H'.length := hj
      unfold rnm
      cases hi : ids[j]? with
      | some o => exact .inl (hidU o (List.mem_of_getElem? hi))
      | none =>
        have := List.getElem?_eq_none_iff.1 hi
        refine .inr ⟨by simp, ?_⟩
        simp only [Option.getD_none]
        omega
    · intro j hj
      have hj : j < H'.length := hj
      unfold rnm
      cases hi : ids[j]? with
      | some o =>
        show X'.ρ o = ρ' j
        rw [hρX o (hidU o (List.mem_of_getElem? hi)), hρ'j j o hi]
      | none =>
        have := List.getElem?_eq_none_iff.1 hi
        show (if base ≤ base + (j - ids.length) ∧ base + (j - ids.length) < base + (H'.length - ids.length) then ρ' (ids.length + (base + (j - ids.length) - base)) else X.ρ _) = ρ' j
        rw [if_pos ⟨by omega, by omega⟩]
        congr 1
        omega
  have hΦs : args.flatMap (fzV ids) = [] → ∀ b, Φ' b → X'.Φ b := fun h b hb => .inr ⟨h, hb⟩
  -- the live objects behind the call
  have hcls : ∀ o x, after H ids base H' o = some x → (∃ j x0, j < H'.length ∧ o = rnm ids base j ∧ ofO H' j = some x0 ∧ x = renO (rnm ids base) x0) ∨ (H o = some x ∧ o ∉ ids ∧ X.U o) := by
    intro o x ho
    unfold after at ho
    split at ho
    · rename_i j hj
      replace ho := map_some' ho; obtain ⟨x0, h1, rfl⟩ := ho
      have hj' := idx_some hj
      refine .inl ⟨j, x0, ?_, ?_, h1, rfl⟩
      · have := lt_len hj'; omega
      · unfold rnm; rw [hj']; rfl
    · rename_i hj
      split at ho
      · rename_i hrg
        replace ho := map_some' ho; obtain ⟨x0, h1, rfl⟩ := ho
        refine .inl ⟨ids.length + (o - base), x0, by omega, ?_, h1, rfl⟩
        unfold rnm
        rw [List.getElem?_eq_none (by omega)]
        simp only [Option.getD_none]
        omega
      · exact .inr ⟨ho, idx_none hj, (r.obj o x ho).1⟩
  have hXρ : ∀ j, j < H'.length → X'.ρ (rnm ids base j) = ρ' j := fun j hj => hren.ρ j hj
  have hpass : ∀ j b, hb (ρc j) = some b → j < Hc.length → ∃ o x, ids[j]? = some o ∧ H o = some x ∧ hb (X.ρ o) = some b := by
    intro j b hbj hj
    have hj' : j < ids.length := by omega
    obtain ⟨x, hx⟩ := hlive ids[j] (by simp)
    exact ⟨ids[j], x, by simp [hj'], hx, by rw [← hρc j ids[j] (by simp [hj'])]; exact hbj⟩
  have hnotpass : ∀ o x b, H o = some x → o ∉ ids → hb (X.ρ o) = some b → ∀ j, j < Hc.length → hb (ρc j) ≠ some b := by
    intro o x b hx hn hbo j hj e
    obtain ⟨o', x', h1, h2, h3⟩ := hpass j b e hj
    have := r.inj o o' x x' b hx h2 hbo h3
    subst this
    exact hn (List.mem_of_getElem? h1)
  have hNw : ∀ o x b, H o = some x → o ∉ ids → hb (X.ρ o) = some b → w'.heap[b]? = X.w.heap[b]? := by
    intro o x b hx hn hbo
    exact hR.block b (((r.obj o x hx).2).lt hbo) (hnotpass o x b hx hn hbo)
  have hΦw : ∀ b, X.Φ b → w'.heap[b]? = X.w.heap[b]? := by
    intro b hΦ
    refine hR.block b (r.fro b hΦ) ?_
    intro j hj e
    obtain ⟨o', x', _, h2, h3⟩ := hpass j b e hj
    exact r.dis o' x' b h2 h3 hΦ
  have hlater : Later X X' := ⟨fun _ h => .inl h, hρX, fun _ h => .inl h, hΦw⟩
  have hPown : ∀ j x0 b, ofO H' j = some x0 → hb (ρ' j) = some b → X.w.heap.size ≤ b ∨ ∃ o x, o ∈ ids ∧ H o = some x ∧ hb (X.ρ o) = some b := by
    intro j x0 b h1 h2
    rcases hR.own j x0 b h1 h2 with h | ⟨j', h3, h4⟩
    · exact .inl h
    · obtain ⟨o', x', q1, q2, q3⟩ := hpass j' b h4 h3
      exact .inr ⟨o', x', List.mem_of_getElem? q1, q2, q3⟩
  refine ⟨y, H', v, X', rfl, hpo, rfl, ⟨hR.os.trans r.os, hR.tape.trans r.tape, hR.output.trans r.output, Nat.le_trans r.size hR.size, ?_, ?_, ?_, ?_, ?_, ?_, ?_, ?_, r.glob.mono hlater.Φ hlater.w⟩, hlater, fun o => Iff.rfl, ?_⟩
  · intro b hb' hn
    rw [← r.block b hb' hn]
    refine hR.block b (Nat.lt_of_lt_of_le hb' r.size) ?_
    intro j hj e
    obtain ⟨o', x', _, h2, h3⟩ := hpass j b e hj
    rcases r.own o' x' b h2 h3 with h | ⟨o'', q1, q2⟩
    · omega
    · exact hn o'' q1 q2
  · intro o ho
    show (if base ≤ o ∧ o < base + (H'.length - ids.length) then ρ' (ids.length + (o - base)) else X.ρ o) = ρ0 o
    rw [if_neg (by omega)]
    exact r.pin o ho
  · intro o x ho
    rcases hcls o x ho with ⟨j, x0, hj, rfl, h1, rfl⟩ | ⟨h1, h2, h3⟩
    · refine ⟨hren.U j hj, ?_⟩
      rw [hXρ j hj]
      refine ren_or hren ?_ (hR.obj j x0 h1).2
      rcases hal with hal | ⟨_, hal⟩
      · exact .inr (hΦs hal)
      · refine .inl (hal x0 ?_)
        have : H'[j]? = some (some x0) := by
          unfold ofO at h1
          cases h : H'[j]? with
          | none => rw [h] at h1; simp at h1
          | some z => rw [h] at h1; simp at h1; rw [h1]
        exact List.mem_of_getElem? this
    · refine ⟨.inl h3, ?_⟩
      rw [hρX o h3]
      exact ((r.obj o x h1).2).later hlater fun b hb' => hNw o x b h1 h2 hb'
  · intro o o' x x' b ho ho' e1 e2
    rcases hcls o x ho with ⟨j, x0, hj, rfl, h1, rfl⟩ | ⟨h1, h2, h3⟩
    · rcases hcls o' x' ho' with ⟨j', x0', hj', rfl, h1', rfl⟩ | ⟨h1', h2', h3'⟩
      · rw [hXρ j hj] at e1
        rw [hXρ j' hj'] at e2
        rw [hR.inj j j' x0 x0' b h1 h1' e1 e2]
      · exfalso
        rw [hXρ j hj] at e1
        rw [hρX o' h3'] at e2
        rcases hPown j x0 b h1 e1 with h | ⟨oo, xx, q1, q2, q3⟩
        · have := ((r.obj o' x' h1').2).lt e2
          omega
        · have := r.inj oo o' xx x' b q2 h1' q3 e2
          subst this
          exact h2' q1
    · rcases hcls o' x' ho' with ⟨j', x0', hj', rfl, h1', rfl⟩ | ⟨h1', h2', h3'⟩
      · exfalso
        rw [hXρ j' hj'] at e2
        rw [hρX o h3] at e1
        rcases hPown j' x0' b h1' e2 with h | ⟨oo, xx, q1, q2, q3⟩
        · have := ((r.obj o x h1).2).lt e1
          omega
        · have := r.inj oo o xx x b q2 h1 q3 e1
          subst this
          exact h2 q1
      · rw [hρX o h3] at e1
        rw [hρX o' h3'] at e2
        exact r.inj o o' x x' b h1 h1' e1 e2
  · intro o x b ho e1
    rcases hcls o x ho with ⟨j, x0, hj, rfl, h1, rfl⟩ | ⟨h1, h2, h3⟩
    · rw [hXρ j hj] at e1
      rcases hPown j x0 b h1 e1 with h | ⟨oo, xx, q1, q2, q3⟩
      · exact .inl (Nat.le_trans r.size h)
      · exact r.own oo xx b q2 q3
    · rw [hρX o h3] at e1
      exact r.own o x b h1 e1
  · intro o x b ho e1 hΦ
    rcases hcls o x ho with ⟨j, x0, hj, rfl, h1, rfl⟩ | ⟨h1, h2, h3⟩
    · rw [hXρ j hj] at e1
      rcases hΦ with hΦ | ⟨_, hΦ⟩
      · rcases hPown j x0 b h1 e1 with h | ⟨oo, xx, q1, q2, q3⟩
        · have := r.fro b hΦ
          omega
        · exact r.dis oo xx b q2 q3 hΦ
      · exact hR.dis j x0 b h1 e1 hΦ
    · rw [hρX o h3] at e1
      rcases hΦ with hΦ | ⟨hz, hΦ⟩
      · exact r.dis o x b h1 e1 hΦ
      · rcases hR.phi b hΦ with h | h | ⟨j', q1, q2⟩
        · rcases h with h | ⟨oo, hoo, _⟩
          · exact r.dis o x b h1 e1 h
          · rw [hz] at hoo; simp at hoo
        · have := ((r.obj o x h1).2).lt e1
          omega
        · exact hnotpass o x b h1 h2 e1 j' q1 q2
  · intro b hΦ
    rcases hΦ with hΦ | ⟨_, hΦ⟩
    · exact Nat.lt_of_lt_of_le (r.fro b hΦ) hR.size
    · exact hR.fro b hΦ
  · intro b hΦ
    rcases hΦ with hΦ | ⟨hz, hΦ⟩
    · exact r.phi b hΦ
    · rcases hR.phi b hΦ with h | h | ⟨j', q1, q2⟩
      · rcases h with h | ⟨oo, hoo, _⟩
        · exact r.phi b h
        · rw [hz] at hoo; simp at hoo
      · exact .inr (.inl (Nat.le_trans r.size h))
      · obtain ⟨o', x', _, h2, h3⟩ := hpass j' b q2 q1
        exact .inr (r.own o' x' b h2 h3)
  · refine ren_vv hren ?_ hvv
    rcases hal with hal | ⟨hal, _⟩
    · exact .inr (hΦs hal)
    · exact .inl hal

end
end Go.EW
