/- More words: bytes that are copied. -/
import Derived.Test.YtejjhgdnmknejaaEwS
namespace Go.EW
open Go
/-- Bytes as rows of cells. -/
def bcv (l : List UInt8) : List (List EC) := l.map fun b => [.fz (.lit (.int .u8 b.toNat))]
@[simp] theorem bcv_take (l : List UInt8) (n : Nat) : (bcv l).take n = bcv (l.take n) := by simp [bcv]
@[simp] theorem bcv_flat (l : List UInt8) : (bcv l).flatten = hc l := by
  induction l with
  | nil => rfl
  | cons b r ih => simp only [bcv, hc, List.map_cons, List.flatten_cons, List.cons_append, List.nil_append] at *; rw [ih]
@[simp] theorem bsv_bcv (l : List UInt8) : List.map (List.map EC.fz) (bsv l) = bcv l := by simp [bsv, bcv, cb]
@[simp] theorem bsv_ones (l : List UInt8) : List.map List.length (bsv l) = List.replicate l.length 1 := by
  induction l with
  | nil => rfl
  | cons b r ih => simp only [bsv, List.map_cons, List.length_cons, List.replicate_succ] at *; rw [ih]; rfl
@[simp] theorem bsv_ones' (l : List UInt8) : List.map (List.length ∘ List.map EC.fz) (bsv l) = List.replicate l.length 1 := by
  induction l with
  | nil => rfl
  | cons b r ih => simp only [bsv, List.map_cons, List.length_cons, List.replicate_succ] at *; rw [ih]; rfl
end Go.EW
namespace Go.EW
open Go
/-! ### a row that is only looked at from now on, wherever it is named -/
def fzE (o es : Nat) (xs : List (List FV)) : EC → EC
  | .row o' len => if o' = o then .fz (.sl es (xs.take len)) else .row o' len
  | c => c
def fzET (o es : Nat) (xs : List (List FV)) : TV → TV
  | .c x => .c (fzE o es xs x)
  | .agg cs => .agg (cs.map (fzE o es xs))
def fzEV (o es : Nat) (xs : List (List FV)) : EV → EV
  | .v t => .v (fzET o es xs t)
  | .tup ts => .tup (ts.map (fzET o es xs))
  | .any => .any
def fzEO (o es : Nat) (xs : List (List FV)) : EO → EO
  | .box ty cs => .box ty (cs.map (fzE o es xs))
  | x => x
attribute [simp] fzE fzET fzEV fzEO

theorem weak_frz {m n o : Nat} {T : List EV} {H : Nat → Option EO} {ty es : Nat} {xs : List (List FV)} (ho : H o = some (.row ty es xs)) :
    Weak m ⟨T, H, n⟩ ⟨T.map (fzEV o es xs), fun i => if i = o then none else (H i).map (fzEO o es xs), n⟩ := by
  rintro w0 ρ0 Φ0 a w ⟨⟨X, rfl, r, hall, hd, hU⟩, hm⟩
  obtain ⟨hu, h0, hlen, flat, how, hfl⟩ := r.obj o _ ho
  have key : ∃ Y : Cx, Y.w = X.w ∧ Y.U = X.U ∧ Y.ρ = X.ρ ∧ Rel w0 m ρ0 Φ0 (upd H o none) Y ∧ Later X Y ∧ ∀ len v, VR X (.row o len) v → FR Y.Φ Y.w (.sl es (xs.take len)) v := by
    rcases how with ⟨hl, ⟨e1, e2⟩ | ⟨g', cap, cur, e1, _, hg', hnc, hcm, hsz, htk⟩⟩
    · refine ⟨X, rfl, rfl, rfl, r.drop (fun i x hx => by
        by_cases e : i = o
        · subst e; rw [upd_same] at hx; simp at hx
        · rwa [upd_ne _ _ _ e] at hx), Later.refl X, ?_⟩
      rintro len v ⟨_, a', n', cap', q1, q2, q3, rfl⟩
      have : xs = [] := List.eq_nil_of_length_eq_zero e2
      subst this
      rw [e1] at q1
      simp only [Value.slice.injEq] at q1
      obtain ⟨rfl, rfl, rfl⟩ := q1
      have : len = 0 := by omega
      subst this
      exact FR.emp es none _
    · have hbo : hb (X.ρ o) = some g' := by rw [e1]; rfl
      obtain ⟨r', l'⟩ := r.still (w' := X.w) rfl rfl rfl rfl o _ ho g' hbo (fun _ _ => rfl)
      refine ⟨{ X with Φ := fun k => X.Φ k ∨ k = g', w := X.w }, rfl, rfl, rfl, r', l', ?_⟩
      rintro len v ⟨_, a', n', cap', q1, q2, q3, rfl⟩
      rw [e1] at q1
      simp only [Value.slice.injEq] at q1
      obtain ⟨rfl, rfl, rfl⟩ := q1
      have hlt : (xs.take len).length = len := by rw [List.length_take]; omega
      have hfx := flat_take xs len hlen (by omega)
      have hfv : (flat.take (len * es)).length = len * es := by
        rw [List.length_take, hl]
        have := Nat.mul_le_mul_right es q2
        omega
      have e3 : len = (xs.take len).length := hlt.symm
      have := FR.sl (Φ := fun k => X.Φ k ∨ k = g') (w := X.w) es (xs.take len) g' 0 cap (flat.take (len * es)) (.inr rfl) h0 (fun x hx => hlen x (List.mem_of_mem_take hx)) (by rw [hfv, hlt]) (by omega)
        (by
          intro j u hj
          rw [Nat.zero_add, cell_of_row _ _ _ cur ty (0, 0) hg']
          rw [List.getElem?_take] at hj
          split at hj
          · rw [← htk, List.getElem?_take] at hj
            split at hj
            · simpa using hj
            · simp at hj
          · simp at hj)
        (by
          intro j x u hx hu'
          rw [hfx, List.getElem?_take] at hx
          rw [List.getElem?_take] at hu'
          split at hx
          · rename_i hj
            rw [if_pos hj] at hu'
            exact l'.fr (hfl.2 j x u hx hu')
          · simp at hx)
      rw [hlt] at this
      exact this
  obtain ⟨Y, hYw, hYU, hYρ, rY, lY, hfr⟩ := key
  have vr : ∀ c v, VR X c v → VR Y (fzE o es xs c) v := by
    intro c v h
    cases c with
    | row o' len =>
      simp only [fzE]
      split
      · rename_i e; subst e; exact hfr len v h
      · exact lY.vr h
    | _ => exact lY.vr h
  have vrs : ∀ cs vs, All2 (VR X) cs vs → All2 (VR Y) (cs.map (fzE o es xs)) vs := by
    intro cs vs h
    refine ⟨by rw [List.length_map]; exact h.1, fun i x y hx hy => ?_⟩
    rw [List.getElem?_map] at hx
    obtain ⟨z, hz, rfl⟩ := map_some' hx
    exact vr z y (h.2 i z y hz hy)
  have vt : ∀ t v, VT X t v → VT Y (fzET o es xs t) v := by
    intro t v h
    cases t with
    | c x => exact vr x v h
    | agg cs => obtain ⟨vs, hv, ha⟩ := h; exact ⟨vs, hv, vrs cs vs ha⟩
  have vv : ∀ e v, VV X e v → VV Y (fzEV o es xs e) v := by
    intro e v h
    cases e with
    | v t => exact vt t v h
    | tup ts =>
      obtain ⟨vs, hv, ha⟩ := h
      refine ⟨vs, hv, by rw [List.length_map]; exact ha.1, fun i x y hx hy => ?_⟩
      rw [List.getElem?_map] at hx
      obtain ⟨z, hz, rfl⟩ := map_some' hx
      exact vt z y (ha.2 i z y hz hy)
    | any => trivial
  have live : ∀ i x, (if i = o then none else (H i).map (fzEO o es xs)) = some x → ∃ x', i ≠ o ∧ H i = some x' ∧ x = fzEO o es xs x' ∧ upd H o none i = some x' := by
    intro i x hx
    split at hx
    · simp at hx
    · rename_i e
      obtain ⟨x', h1, rfl⟩ := map_some' hx
      exact ⟨x', e, h1, rfl, by rw [upd_ne _ _ _ e]; exact h1⟩
  refine ⟨⟨Y, hYw, ⟨rY.os, rY.tape, rY.output, rY.size, rY.block, rY.pin, ?_, ?_, ?_, ?_, rY.fro, rY.phi, rY.glob⟩, ?_, hd, fun i hi => hU i (by rw [hYU] at hi; exact hi)⟩, hm⟩
  · intro i x hx
    obtain ⟨x', h1, h2, rfl, h4⟩ := live i x hx
    obtain ⟨hu', hor⟩ := rY.obj i x' h4
    refine ⟨hu', ?_⟩
    cases x' with
    | box tb cells =>
      obtain ⟨_, b, c, q1, q2, q3⟩ := r.obj i _ h2
      refine ⟨b, c, by rw [hYρ]; exact q1, by rw [hYw]; exact q2, vrs _ _ q3⟩
    | row _ _ _ => exact hor
  · intro i i' x x' b h1 h2
    obtain ⟨_, _, _, _, q1⟩ := live i x h1
    obtain ⟨_, _, _, _, q2⟩ := live i' x' h2
    exact rY.inj i i' _ _ b q1 q2
  · intro i x b h1
    obtain ⟨_, _, _, _, q1⟩ := live i x h1
    exact rY.own i _ b q1
  · intro i x b h1
    obtain ⟨_, _, _, _, q1⟩ := live i x h1
    exact rY.dis i _ b q1
  · refine ⟨by rw [List.length_map]; exact hall.1, fun i x y hx hy => ?_⟩
    rw [List.getElem?_map] at hx
    obtain ⟨z, hz, rfl⟩ := map_some' hx
    exact vv z y (hall.2 i z y hz hy)

/-- A nil slice that is only looked at, wherever it stands: no slice reads otherwise. -/
def nlE (es : Nat) : EC → EC
  | .fz (.lit (.slice none 0 0)) => .fz (.sl es [])
  | c => c
theorem nl_vr {X : Cx} {es : Nat} {c : EC} {v : Value} (h : VR X c v) : VR X (nlE es c) v := by
  unfold nlE
  split
  · cases h; exact FR.emp es none 0
  · exact h
/-- A nil slice in a temporary's parts. -/
theorem weak_nlA {m n : Nat} {T : List EV} {H : Nat → Option EO} (i k es : Nat) {cs : List EC} (hT : T[i]? = some (.v (.agg cs))) (hc : cs[k]? = some (.fz (.lit (.slice none 0 0)))) :
    Weak m ⟨T, H, n⟩ ⟨T.set i (.v (.agg (cs.set k (.fz (.sl es []))))), H, n⟩ := by
  rintro w0 ρ0 Φ0 a w ⟨⟨X, hX, r, hall, hd, hU⟩, hm⟩
  refine ⟨⟨X, hX, r, ?_, hd, hU⟩, hm⟩
  refine ⟨by rw [List.length_set]; exact hall.1, ?_⟩
  intro j x y hx hy
  rw [List.getElem?_set] at hx
  split at hx
  · rename_i hij
    subst hij
    split at hx
    · obtain rfl := Option.some.inj hx
      obtain ⟨vs, hv, ha⟩ : VT X (.agg cs) y := hall.2 i _ y hT hy
      refine ⟨vs, hv, by rw [List.length_set]; exact ha.1, ?_⟩
      intro l x' y' hx' hy'
      rw [List.getElem?_set] at hx'
      split at hx'
      · rename_i hkl
        subst hkl
        split at hx'
        · obtain rfl := Option.some.inj hx'
          have h : FR X.Φ X.w (.lit (.slice none 0 0)) y' := ha.2 k _ y' hc hy'
          cases h
          exact FR.emp es none 0
        · simp at hx'
      · exact ha.2 l x' y' hx' hy'
    · simp at hx
  · exact hall.2 j x y hx hy
end Go.EW
namespace Go.EW
open Go
theorem litB {b c : Bool} (h : b = c) : EV.v (.c (.fz (.lit (.bool b)))) = EV.lit (.bool c) := by rw [h]; rfl
end Go.EW
namespace Go.EW
open Go
/-- A nil slice in a box's cell is a slice of nothing. -/
theorem weak_nlB {m n o k : Nat} {T : List EV} {H : Nat → Option EO} {tb : TypeId} {cells : List EC} (es : Nat) (ho : H o = some (.box tb cells)) (hc : cells[k]? = some (.fz (.lit (.slice none 0 0)))) :
    Weak m ⟨T, H, n⟩ ⟨T, upd H o (some (.box tb (cells.set k (.fz (.sl es []))))), n⟩ := by
  rintro w0 ρ0 Φ0 a w ⟨⟨X, rfl, r, hall, hd, hU⟩, hm⟩
  have live : ∀ i x, upd H o (some (.box tb (cells.set k (.fz (.sl es []))))) i = some x → ∃ x', H i = some x' ∧ ((i = o ∧ x = .box tb (cells.set k (.fz (.sl es [])))) ∨ x' = x) := by
    intro i x hx
    by_cases h : i = o
    · subst h; rw [upd_same] at hx; exact ⟨_, ho, .inl ⟨rfl, (Option.some.inj hx).symm⟩⟩
    · rw [upd_ne _ _ _ h] at hx; exact ⟨x, hx, .inr rfl⟩
  refine ⟨⟨X, rfl, ⟨r.os, r.tape, r.output, r.size, r.block, r.pin, ?_, ?_, ?_, ?_, r.fro, r.phi, r.glob⟩, hall, hd, hU⟩, hm⟩
  · intro i x hx
    obtain ⟨x', hx', h⟩ := live i x hx
    obtain ⟨hu, hor⟩ := r.obj i x' hx'
    refine ⟨hu, ?_⟩
    rcases h with ⟨rfl, rfl⟩ | rfl
    · rw [ho] at hx'
      obtain rfl := Option.some.inj hx'
      obtain ⟨b, c, q1, q2, q3⟩ := hor
      refine ⟨b, c, q1, q2, by simpa using q3.1, ?_⟩
      intro j y v hy hv
      rw [List.getElem?_set] at hy
      split at hy
      · rename_i hj
        subst hj
        split at hy
        · obtain rfl := Option.some.inj hy
          have h : FR X.Φ X.w (.lit (.slice none 0 0)) v := q3.2 k _ v hc hv
          cases h
          exact FR.emp es none 0
        · simp at hy
      · exact q3.2 j y v hy hv
    · exact hor
  · intro i i' x x' b h1 h2
    obtain ⟨_, q1, _⟩ := live i x h1
    obtain ⟨_, q2, _⟩ := live i' x' h2
    exact r.inj i i' _ _ b q1 q2
  · intro i x b h1
    obtain ⟨_, q1, _⟩ := live i x h1
    exact r.own i _ b q1
  · intro i x b h1
    obtain ⟨_, q1, _⟩ := live i x h1
    exact r.dis i _ b q1
end Go.EW
namespace Go.EW
open Go
/-- What is said of a slice of nothing is said of a nil slice. -/
theorem ecalls_nil {P : Program} {f : FuncId} {es : Nat} {rest : List EV} {H : List EO} {post : EV → List (Option EO) → Prop} (h : ECalls P f (.v (.c (.fz (.sl es []))) :: rest) H post) : ECalls P f (.v (.c (.fz (.lit (.slice none 0 0)))) :: rest) H post := by
  intro ρ Φ w vals r ha
  refine h ρ Φ w vals r ?_
  obtain ⟨u, us, rfl, h1, h2⟩ := ha.cons_left
  refine All2.cons ?_ h2
  have h1' : FR Φ w (.lit (.slice none 0 0)) u := h1
  cases h1'
  exact FR.emp es none 0
/-- A box with a nil slice in it may be handed where a box and an own row of nothing are wanted. -/
theorem ecalls_nilB {P : Program} {f : FuncId} {args : List EV} {H : List EO} {post : EV → List (Option EO) → Prop} (o k : Nat) {tb ty es : Nat} {cells : List EC} (ho : H[o]? = some (.box tb cells)) (hc : cells[k]? = some (.fz (.lit (.slice none 0 0)))) (he : 0 < es)
    (h : ECalls P f args (H.set o (.box tb (cells.set k (.row H.length 0))) ++ [.row ty es []]) post) : ECalls P f args H post := by
  have hol : o < H.length := lt_of_get ho
  intro ρ Φ w vals r ha
  have hw := weak_nil (m := H.length) (n := H.length) (T := args) (H := ofL H) (ty := ty) (es := es) (tb := tb) (cells := cells) (o := o) (k := k) ho hc he
  obtain ⟨⟨X, hX, r1, a1, _, hU⟩, _⟩ := hw w ρ Φ { tmps := vals.toArray, defers := [] } w ⟨⟨⟨fun o => o < H.length, ρ, Φ, w⟩, rfl, r, by simpa using ha, rfl, fun i hi => hi⟩, Nat.le_refl _⟩
  obtain ⟨XU, Xρ, XΦ, Xw⟩ := X
  obtain rfl : Xw = w := hX
  have hH : ∀ i, ofL (H.set o (.box tb (cells.set k (.row H.length 0))) ++ [.row ty es []]) i = upd (upd (ofL H) o (some (.box tb (cells.set k (.row H.length 0))))) H.length (some (.row ty es [])) i := by
    intro i
    unfold ofL
    rw [List.getElem?_append]
    simp only [List.length_set]
    by_cases h1 : i < H.length
    · rw [if_pos h1, upd_ne _ _ _ (by omega), List.getElem?_set]
      by_cases h2 : o = i
      · subst h2; rw [if_pos rfl, if_pos h1, upd_same]
      · rw [if_neg h2, upd_ne _ _ _ (fun e => h2 e.symm)]
    · rw [if_neg h1]
      by_cases h2 : i = H.length
      · subst h2; rw [upd_same]; simp
      · rw [upd_ne _ _ _ h2, upd_ne _ _ _ (by omega), List.getElem?_eq_none (l := H) (by omega), List.getElem?_eq_none (by simp; omega)]
  have hl : Later ⟨XU, Xρ, XΦ, Xw⟩ ⟨fun o => o < H.length + 1, Xρ, XΦ, Xw⟩ := ⟨fun i hi => hU i hi, fun _ _ => rfl, fun _ h => h, fun _ _ => rfl⟩
  have hL2 : (H.set o (EO.box tb (cells.set k (.row H.length 0))) ++ [EO.row ty es []]).length = H.length + 1 := by simp
  have rY : Rel Xw (H.length + 1) Xρ XΦ (ofL (H.set o (.box tb (cells.set k (.row H.length 0))) ++ [.row ty es []])) ⟨fun o => o < H.length + 1, Xρ, XΦ, Xw⟩ := by
    refine ⟨rfl, rfl, rfl, Nat.le_refl _, fun _ _ _ => rfl, fun _ _ => rfl, ?_, ?_, ?_, ?_, r1.fro, fun b hb => .inl hb, r1.glob⟩
    · intro i x hx
      rw [hH] at hx
      obtain ⟨q1, q2⟩ := r1.obj i x hx
      exact ⟨hU i q1, q2.later hl fun _ _ => rfl⟩
    · intro i i' x x' b h1 h2
      rw [hH] at h1 h2
      exact r1.inj i i' x x' b h1 h2
    · intro i x b h1 h2
      refine .inr ⟨i, ?_, h2⟩
      rw [hH] at h1
      exact hU i (r1.obj i x h1).1
    · intro i x b h1
      rw [hH] at h1
      exact r1.dis i x b h1
  have ownL : ∀ b, hb (Xρ H.length) = some b → Xw.heap.size ≤ b ∨ ∃ o', o' < H.length ∧ hb (ρ o') = some b := fun b hbb => r1.own H.length _ b (upd_same _ _ _) hbb
  have h' := h Xρ XΦ Xw vals (by rw [hL2]; exact rY) (by rw [hL2]; exact (by simpa using a1 : All2 (VV ⟨XU, Xρ, XΦ, Xw⟩) args vals).mono fun _ _ => hl.vv)
  refine h'.mono ?_
  rintro e w' ⟨y, H', v, ρ', Φ', he', hp, hlen, hv, hr⟩
  rw [hL2] at hlen hr
  refine ⟨y, H', v, ρ', Φ', he', hp, by omega, hv, ?_⟩
  refine ⟨hr.os, hr.tape, hr.output, hr.size, ?_, ?_, hr.obj, hr.inj, ?_, hr.dis, hr.fro, ?_, hr.glob⟩
  · intro b hb1 hn
    refine hr.block b hb1 ?_
    intro i hi e'
    by_cases h1 : i < H.length
    · exact hn i h1 (by rw [← r1.pin i h1]; exact e')
    · obtain rfl : i = H.length := by omega
      rcases ownL b e' with h2 | ⟨o', h2, h3⟩
      · omega
      · exact hn o' h2 h3
  · intro i hi
    exact (hr.pin i (by omega)).trans (r1.pin i hi)
  · intro i x b h1 h2
    rcases hr.own i x b h1 h2 with h3 | ⟨o', h3, h4⟩
    · exact .inl h3
    · by_cases h5 : o' < H.length
      · exact .inr ⟨o', h5, by rw [← r1.pin o' h5]; exact h4⟩
      · obtain rfl : o' = H.length := by omega
        exact ownL b h4
  · intro b hb1
    rcases hr.phi b hb1 with h3 | h3 | ⟨o', h3, h4⟩
    · exact r1.phi b h3
    · exact .inr (.inl h3)
    · by_cases h5 : o' < H.length
      · exact .inr (.inr ⟨o', h5, by rw [← r1.pin o' h5]; exact h4⟩)
      · obtain rfl : o' = H.length := by omega
        rcases ownL b h4 with h6 | h6
        · exact .inr (.inl h6)
        · exact .inr (.inr h6)

end Go.EW
