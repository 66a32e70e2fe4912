/- Quiet E-operations, second part: memory that is read or made. -/
import Derived.Test.YtejjhgdnmknejaaEwD
namespace Go.EW
open Go

theorem flatten_get {α : Type} {es : Nat} : ∀ {xs : List (List α)} (_ : ∀ x ∈ xs, x.length = es) {i : Nat} {x : List α} (_ : xs[i]? = some x) {k : Nat} (_ : k < es), xs.flatten[i * es + k]? = x[k]?
  | [], _, i, x, hi, _, _ => by simp at hi
  | y :: r, hl, 0, x, hi, k, hk => by
    simp at hi; subst hi
    have := hl y (by simp)
    simp only [List.flatten_cons, Nat.zero_mul, Nat.zero_add]
    rw [List.getElem?_append_left (by omega)]
  | y :: r, hl, i + 1, x, hi, k, hk => by
    have hy := hl y (by simp)
    simp only [List.flatten_cons]
    rw [List.getElem?_append_right (by rw [hy, Nat.add_mul]; omega)]
    have : (i + 1) * es + k - y.length = i * es + k := by rw [hy, Nat.add_mul]; omega
    rw [this]
    exact flatten_get (fun z hz => hl z (by simp [hz])) (by simpa using hi) hk

theorem flatten_length {α : Type} {es : Nat} : ∀ {xs : List (List α)} (_ : ∀ x ∈ xs, x.length = es), xs.flatten.length = xs.length * es
  | [], _ => by simp
  | y :: r, hl => by
    have hy := hl y (by simp)
    have := flatten_length (es := es) (xs := r) (fun z hz => hl z (by simp [hz]))
    simp only [List.flatten_cons, List.length_append, List.length_cons, this, hy, Nat.add_mul]
    omega

theorem lt_of_get {α : Type} {xs : List α} {i : Nat} {x : α} (h : xs[i]? = some x) : i < xs.length := by
  rcases Nat.lt_or_ge i xs.length with h' | h'
  · exact h'
  · rw [List.getElem?_eq_none h'] at h; simp at h

section
variable {P : Program} {o : Oper} {w0 : World} {m : Nat} {ρ0 : Nat → Value} {Φ0 : Nat → Prop} {H : Nat → Option EO} {X : Cx} {T : List EV} {a : Act} {id : Nat}

theorem OR_row_cells {ty : TypeId} {es : Nat} {elems : List (List FV)} {h : Value} (k : OR X (.row ty es elems) h) {b n cap : Nat} (hh : h = .slice (some ⟨b, 0, none⟩) n cap) :
    n = elems.length ∧ elems.length ≤ cap ∧ ∀ j x, elems.flatten[j]? = some x → ∃ u, X.w.cell? ⟨b, j, none⟩ = some u ∧ FR X.Φ X.w x u := by
  obtain ⟨h0, hl, flat, ho, ha⟩ := k
  subst hh
  have hcells := ho.cells (g := b) rfl
  rcases ho.2 with ⟨hn, _⟩ | ⟨g, cap', cur, he, _, _, hn, _⟩
  · simp at hn
  · simp only [Value.slice.injEq] at he
    obtain ⟨_, rfl, rfl⟩ := he
    refine ⟨rfl, hn, ?_⟩
    intro j x hx
    obtain ⟨u, hu, hr⟩ := ha.get hx
    have := hcells j u hu
    rw [Addr.add_lit, Nat.zero_add] at this
    exact ⟨u, this, hr⟩

theorem cellsAt_spec (r : Rel w0 m ρ0 Φ0 H X) {p : EC} {v : Value} (hv : VR X p v) {cs : List EC} (h : cellsAt H p = some cs) :
    ∃ b off, v = .pointer (some ⟨b, off, none⟩) ∧ ∀ j c, cs[j]? = some c → ∃ u, X.w.cell? ⟨b, off + j, none⟩ = some u ∧ VR X c u := by
  unfold cellsAt at h
  split at h
  · rename_i o' k
    split at h
    · rename_i ty cells hH
      obtain rfl := Option.some.inj h
      obtain ⟨hu, b, hρ, rfl⟩ := hv
      obtain ⟨b', c, hh, hheap, ha⟩ := (r.obj o' _ hH).2
      rw [hρ] at hh
      simp at hh
      subst hh
      refine ⟨b, k, rfl, ?_⟩
      intro j c' hc
      rw [List.getElem?_drop] at hc
      obtain ⟨u, hu', hr⟩ := ha.get hc
      exact ⟨u, by rw [cell_of_row X.w b (k + j) c ty (0, 0) hheap]; simpa using hu', hr⟩
    · simp at h
  · rename_i o' es i k
    split at h
    · rename_i ty es' xs hH
      split at h
      · rename_i he
        subst he
        obtain ⟨x, hx, rfl⟩ := map_some' h
        obtain ⟨hu, b, n, cap, hρ, rfl⟩ := hv
        have hor := (r.obj o' _ hH).2
        obtain ⟨_, _, hcells⟩ := OR_row_cells hor hρ
        have hl := hor.2.1
        refine ⟨b, i * es' + k, rfl, ?_⟩
        intro j c hc
        rw [List.getElem?_drop, List.getElem?_map] at hc
        obtain ⟨y, hy, rfl⟩ := map_some' hc
        have hxl := hl x (List.mem_of_getElem? hx)
        have hk : k + j < es' := hxl ▸ lt_of_get hy
        obtain ⟨u, hu', hr⟩ := hcells (i * es' + (k + j)) y (by rw [flatten_get hl hx hk]; exact hy)
        exact ⟨u, by rw [show i * es' + k + j = i * es' + (k + j) by omega]; exact hu', hr⟩
      · simp at h
    · simp at h
  · rename_i fs k
    obtain rfl := Option.some.inj h
    obtain ⟨b, off, _, rfl, vs, hlen, hc, hf⟩ := hv
    refine ⟨b, off + k, rfl, ?_⟩
    intro j c hcj
    rw [List.getElem?_drop, List.getElem?_map] at hcj
    obtain ⟨y, hy, rfl⟩ := map_some' hcj
    have hlt : k + j < vs.length := hlen ▸ lt_of_get hy
    refine ⟨vs[k + j], ?_, ?_⟩
    · rw [show off + k + j = off + (k + j) by omega]
      exact hc (k + j) _ (by simp [hlt])
    · exact hf (k + j) y _ hy (by simp [hlt])
  · unfold gptr at h
    split at h
    case h_2 => simp at h
    rename_i g k
    obtain ⟨gs, hg, rfl⟩ := map_some' h
    cases hv
    refine ⟨g, k, rfl, ?_⟩
    intro j c hcj
    rw [List.getElem?_drop, List.getElem?_map] at hcj
    obtain ⟨y, hy, rfl⟩ := map_some' hcj
    exact (r.glob g gs hg).2 (k + j) y hy
  · simp at h

theorem run_loadVar_one {w : World} {t : TypeId} (ht : agg? P t = some false) {ad : Addr} {v : Value} (hc : w.cell? ad = some v) : (loadVar t ad).run P w = .ok v w := by
  unfold agg? at ht
  split at ht <;> simp at ht
  rename_i d h1 h2 hu
  have hA : (isAgg t).run P w = .ok false w := by
    simp only [isAgg, Sem.run_bind, run_underlying hu, Result.andThen_ok]
    cases d <;> first | rfl | exact absurd rfl (h1 _) | exact absurd rfl (h2 _ _)
  simp [loadVar, hA, hc]

theorem agg_true {t : TypeId} (ht : agg? P t = some true) {w : World} : (isAgg t).run P w = .ok true w := by
  unfold agg? at ht
  split at ht <;> simp at ht
  · rename_i hu; simp [isAgg, run_underlying hu]
  · rename_i hu; simp [isAgg, run_underlying hu]
theorem agg_false {t : TypeId} (ht : agg? P t = some false) {w : World} : (isAgg t).run P w = .ok false w := by
  unfold agg? at ht
  split at ht <;> simp at ht
  rename_i d h1 h2 hu
  simp only [isAgg, Sem.run_bind, run_underlying hu, Result.andThen_ok]
  cases d <;> first | rfl | exact absurd rfl (h1 _) | exact absurd rfl (h2 _ _)
theorem run_sz {t : TypeId} {n : Nat} (h : sz P t = some n) {w : World} : (sizeOf t).run P w = .ok n w := by
  obtain ⟨i, hi, rfl⟩ := map_some' h
  simp [sizeOf, typeInfo, hi]

theorem run_loadVar_agg {w : World} {t : TypeId} (ht : agg? P t = some true) {n : Nat} (hn : sz P t = some n) {b off : Nat} {us : List Value} (hl : us.length = n) (hc : ∀ j u, us[j]? = some u → w.cell? ⟨b, off + j, none⟩ = some u) :
    (loadVar t ⟨b, off, none⟩).run P w = .ok (.agg us.toArray) w := by
  have h := run_loadCells_list (P := P) w ⟨b, off, none⟩ us (fun j v hv => by rw [Addr.add_lit]; exact hc j v hv)
  rw [hl] at h
  simp [loadVar, agg_true ht, run_sz hn, h]

theorem g_ldc {t : TypeId} {x : Operand} (ho : o.op = .load t x) (ht : agg? P t = some false) (r : Rel w0 m ρ0 Φ0 H X) (ha : All2 (VV X) T a.tmps.toList) {v : EV} {ob : Option EO} (h : evQ (.ldc (opd x)) T H id = some (v, ob)) : Good P o a w0 m ρ0 Φ0 H X id v ob := by
  simp only [evQ] at h
  obtain ⟨p, h1, h⟩ := bind_some' h
  obtain ⟨cs, h2, h⟩ := bind_some' h
  obtain ⟨c, h3, h⟩ := map_some' h
  simp only [Prod.mk.injEq] at h
  obtain ⟨rfl, rfl⟩ := h
  obtain ⟨b, off, hp, hcs⟩ := cellsAt_spec r (VV_c h1 (VV_ev ha x)) h2
  obtain ⟨u, hu, hr⟩ := hcs 0 c h3
  rw [Nat.add_zero] at hu
  refine .pure r (val := u) ?_ hr
  simp [execOp, ho, hp, Instr.loadAt, Instr.sureAddr, run_loadVar_one ht hu]

theorem All2_of {α β : Type} {R : α → β → Prop} : ∀ {xs : List α} (_ : ∀ (j : Nat) (x : α), xs[j]? = some x → ∃ y, R x y), ∃ ys : List β, All2 R xs ys
  | [], _ => ⟨[], All2.nil⟩
  | x :: r, h => by
    obtain ⟨y, hy⟩ := h 0 x rfl
    obtain ⟨ys, hys⟩ := All2_of (xs := r) (fun j z hz => h (j + 1) z (by simpa using hz))
    exact ⟨y :: ys, All2.cons hy hys⟩

theorem cells_list (cs : List EC) {w : World} {b off : Nat} (h : ∀ j c, cs[j]? = some c → ∃ u, w.cell? ⟨b, off + j, none⟩ = some u ∧ VR X c u) :
    ∃ us : List Value, All2 (VR X) cs us ∧ ∀ j u, us[j]? = some u → w.cell? ⟨b, off + j, none⟩ = some u := by
  induction cs generalizing off with
  | nil => exact ⟨[], All2.nil, by simp⟩
  | cons c r ih =>
    obtain ⟨u, hu, hr⟩ := h 0 c rfl
    obtain ⟨us, h1, h2⟩ := ih (off := off + 1) (fun j c' hc => by
      obtain ⟨u', hu', hr'⟩ := h (j + 1) c' (by simpa using hc)
      exact ⟨u', by rw [show off + 1 + j = off + (j + 1) by omega]; exact hu', hr'⟩)
    refine ⟨u :: us, All2.cons hr h1, ?_⟩
    intro j u' hu'
    cases j with
    | zero => simp at hu'; subst hu'; exact hu
    | succ j => rw [show off + (j + 1) = off + 1 + j by omega]; exact h2 j u' (by simpa using hu')

theorem cellsAtN_spec (r : Rel w0 m ρ0 Φ0 H X) {p : EC} {v : Value} {n : Nat} (hv : VR X p v) {cs : List EC} (h : cellsAtN H n p = some cs) :
    ∃ b off, v = .pointer (some ⟨b, off, none⟩) ∧ ∀ j c, cs[j]? = some c → ∃ u, X.w.cell? ⟨b, off + j, none⟩ = some u ∧ VR X c u := by
  unfold cellsAtN at h
  obtain ⟨ds, h1, h⟩ := bind_some' h
  split at h
  · obtain rfl := Option.some.inj h
    exact cellsAt_spec r hv h1
  · unfold cellsRun at h
    split at h
    · rename_i o' es i k _
      split at h
      · rename_i ty es' xs hH
        split at h
        · rename_i he
          subst he
          obtain rfl := Option.some.inj h
          obtain ⟨hu, b, n, cap, hρ, rfl⟩ := hv
          have hor := (r.obj o' _ hH).2
          obtain ⟨_, _, hcells⟩ := OR_row_cells hor hρ
          refine ⟨b, i * es' + k, rfl, ?_⟩
          intro j c hc
          rw [List.getElem?_map, List.getElem?_drop] at hc
          obtain ⟨y, hy, rfl⟩ := map_some' hc
          obtain ⟨u, hu', hr⟩ := hcells (i * es' + k + j) y hy
          exact ⟨u, hu', hr⟩
        · simp at h
      · simp at h
    · simp at h

theorem g_lda {t : TypeId} {x : Operand} {n : Nat} (ho : o.op = .load t x) (ht : agg? P t = some true) (hn : sz P t = some n) (r : Rel w0 m ρ0 Φ0 H X) (ha : All2 (VV X) T a.tmps.toList) {v : EV} {ob : Option EO} (h : evQ (.lda n (opd x)) T H id = some (v, ob)) : Good P o a w0 m ρ0 Φ0 H X id v ob := by
  simp only [evQ] at h
  obtain ⟨p, h1, h⟩ := bind_some' h
  obtain ⟨cs, h2, h⟩ := bind_some' h
  split at h
  · rename_i hle
    simp only [Option.some.injEq, Prod.mk.injEq] at h
    obtain ⟨rfl, rfl⟩ := h
    obtain ⟨b, off, hp, hcs⟩ := cellsAtN_spec r (VV_c h1 (VV_ev ha x)) h2
    obtain ⟨us, hall, hcell⟩ := cells_list (X := X) (cs.take n) (w := X.w) (b := b) (off := off) (fun j c hc => by
      rw [List.getElem?_take] at hc
      split at hc
      · exact hcs j c hc
      · simp at hc)
    have hlen : us.length = n := by rw [← hall.1]; simp; omega
    refine .pure r (val := .agg us.toArray) ?_ ⟨us, rfl, hall⟩
    simp [execOp, ho, hp, Instr.loadAt, Instr.sureAddr, run_loadVar_agg ht hn hlen hcell]
  · simp at h

theorem notNil_val {c : EC} {v : Value} (h : notNil c = true) (hv : VR X c v) : (∃ ad, v = .pointer (some ad)) ∨ (∃ f vs, v = .func (.func f) #[] vs) := by
  unfold notNil at h
  split at h
  · obtain ⟨_, b, _, rfl⟩ := hv; exact .inl ⟨_, rfl⟩
  · obtain ⟨_, b, n, cap, _, rfl⟩ := hv; exact .inl ⟨_, rfl⟩
  · obtain ⟨b, off, _, rfl, _⟩ := hv; exact .inl ⟨_, rfl⟩
  · obtain ⟨vs, rfl, _⟩ := hv; exact .inr ⟨_, _, rfl⟩
  · cases hv; exact .inl ⟨_, rfl⟩
  · simp at h

theorem g_nilc {x : Operand} (ho : o.op = .nilCheck x) (r : Rel w0 m ρ0 Φ0 H X) (ha : All2 (VV X) T a.tmps.toList) {v : EV} {ob : Option EO} (h : evQ (.nilc (opd x)) T H id = some (v, ob)) : Good P o a w0 m ρ0 Φ0 H X id v ob := by
  simp only [evQ] at h
  obtain ⟨p, h1, h⟩ := bind_some' h
  split at h
  · rename_i hn
    simp only [Option.some.injEq, Prod.mk.injEq] at h
    obtain ⟨rfl, rfl⟩ := h
    have hv := VV_c h1 (VV_ev ha x)
    refine .pure r (val := a.eval x) ?_ hv
    rcases notNil_val hn hv with ⟨ad, e⟩ | ⟨f, vs, e⟩
    · simp [execOp, ho, e]
    · simp [execOp, ho, e]
  · simp at h

theorem field_some {s : TypeId} {f : Nat} {fl : Field} (h : fieldOf P s f = some fl) : ∃ fs, P.underlying s = some (.struct fs) ∧ fs[f]? = some fl := by
  unfold fieldOf at h
  split at h
  · exact ⟨_, by assumption, h⟩
  · simp at h

theorem g_fad {s : TypeId} {x : Operand} {f : Nat} {fl : Field} {n : Nat} (ho : o.op = .fieldAddr s x f) (hf : fieldOf P s f = some fl) (hn : sz P fl.type = some n) (hz : n ≠ 0) (r : Rel w0 m ρ0 Φ0 H X) (ha : All2 (VV X) T a.tmps.toList) {v : EV} {ob : Option EO} (h : evQ (.fad fl.offset (opd x)) T H id = some (v, ob)) : Good P o a w0 m ρ0 Φ0 H X id v ob := by
  obtain ⟨fs, hu, hfl⟩ := field_some hf
  have run : ∀ b off, a.eval x = .pointer (some ⟨b, off, none⟩) → (execOp a.eval o).run P X.w = .ok (.value (.pointer (some ⟨b, off + fl.offset, none⟩))) X.w := by
    intro b off e
    simp [execOp, ho, e, Instr.fieldAt, run_underlying hu, hfl, Instr.sureAddr, fieldPlace, run_sz hn, hz, Addr.add_lit]
  simp only [evQ] at h
  split at h
  · rename_i o' k h1
    simp only [Option.some.injEq, Prod.mk.injEq] at h
    obtain ⟨rfl, rfl⟩ := h
    obtain ⟨hu', b, hρ, e⟩ := VV_c h1 (VV_ev ha x)
    exact .pure r (run b k e) ⟨hu', b, hρ, rfl⟩
  · rename_i o' es i k h1
    simp only [Option.some.injEq, Prod.mk.injEq] at h
    obtain ⟨rfl, rfl⟩ := h
    obtain ⟨hu', b, n', cap, hρ, e⟩ := VV_c h1 (VV_ev ha x)
    exact .pure r (run b _ e) ⟨hu', b, n', cap, hρ, by rw [Nat.add_assoc]⟩
  · rename_i cs k h1
    simp only [Option.some.injEq, Prod.mk.injEq] at h
    obtain ⟨rfl, rfl⟩ := h
    obtain ⟨b, off, hb', e, rest⟩ := VV_c h1 (VV_ev ha x)
    exact .pure r (run b _ e) ⟨b, off, hb', by rw [Nat.add_assoc], rest⟩
  · rename_i g k h1
    simp only [Option.some.injEq, Prod.mk.injEq] at h
    obtain ⟨rfl, rfl⟩ := h
    have e : a.eval x = .pointer (some ⟨g, k, none⟩) := VV_lit (by rw [asC_some h1]; rfl) (VV_ev ha x)
    exact .pure r (run g k e) (VV_mklit rfl)
  · simp at h

theorem g_fgc {s : TypeId} {x : Operand} {f : Nat} {fl : Field} (ho : o.op = .field s x f) (hf : fieldOf P s f = some fl) (hag : agg? P fl.type = some false) (r : Rel w0 m ρ0 Φ0 H X) (ha : All2 (VV X) T a.tmps.toList) {v : EV} {ob : Option EO} (h : evQ (.fgc fl.offset (opd x)) T H id = some (v, ob)) : Good P o a w0 m ρ0 Φ0 H X id v ob := by
  obtain ⟨fs, hu, hfl⟩ := field_some hf
  simp only [evQ] at h
  obtain ⟨cs, h1, h⟩ := bind_some' h
  obtain ⟨c, h2, h⟩ := map_some' h
  simp only [Prod.mk.injEq] at h
  obtain ⟨rfl, rfl⟩ := h
  obtain ⟨vs, e, hall⟩ := VV_ag h1 (VV_ev ha x)
  obtain ⟨u, hu', hr⟩ := hall.get h2
  refine .pure r (val := u) ?_ hr
  simp [execOp, ho, e, Instr.field, run_underlying hu, hfl, asAgg, part, agg_false hag, hu']

theorem extract_toList {α : Type} (vs : List α) (i j : Nat) : (vs.toArray.extract i j) = ((vs.drop i).take (j - i)).toArray := by
  simp [List.extract_toArray, List.extract_eq_take_drop]

theorem g_fga {s : TypeId} {x : Operand} {f : Nat} {fl : Field} {n : Nat} (ho : o.op = .field s x f) (hf : fieldOf P s f = some fl) (hag : agg? P fl.type = some true) (hn : sz P fl.type = some n) (r : Rel w0 m ρ0 Φ0 H X) (ha : All2 (VV X) T a.tmps.toList) {v : EV} {ob : Option EO} (h : evQ (.fga fl.offset n (opd x)) T H id = some (v, ob)) : Good P o a w0 m ρ0 Φ0 H X id v ob := by
  obtain ⟨fs, hu, hfl⟩ := field_some hf
  simp only [evQ] at h
  obtain ⟨cs, h1, h⟩ := bind_some' h
  split at h
  · simp only [Option.some.injEq, Prod.mk.injEq] at h
    obtain ⟨rfl, rfl⟩ := h
    obtain ⟨vs, e, hall⟩ := VV_ag h1 (VV_ev ha x)
    refine .pure r (val := .agg ((vs.drop fl.offset).take n).toArray) ?_ ⟨_, rfl, (hall.drop _).take _⟩
    simp only [execOp, ho, e, Instr.field, Sem.run_bind, run_underlying hu, Result.andThen_ok, hfl, asAgg, part, agg_true hag, run_sz hn, if_true, Sem.run_pure, extract_toList]
    simp
  · simp at h

end
end Go.EW
