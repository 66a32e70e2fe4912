/- E-operations that turn an object: stores, append, copy. -/
import Derived.Test.YtejjhgdnmknejaaEwH
import Derived.Maps.AppendAt
namespace Go.EW
open Go

def dropO (H : Nat → Option EO) : Option Nat → Nat → Option EO
  | none => H
  | some o => upd H o none

/-- What a store makes of an object. -/
def stoAt (H : Nat → Option EO) (p : EC) (cs : List EC) : Option (Nat × EO) :=
  match p with
  | .ptr o k => match H o with
    | some (.box ty cells) => if k + cs.length ≤ cells.length then some (o, .box ty (cells.take k ++ cs ++ cells.drop (k + cs.length))) else none
    | _ => none
  | .eptr o es i k => match H o with
    | some (.row ty es' xs) => if es' = es then (xs[i]?).bind fun x => (frzAll cs).bind fun fs => if k + fs.length ≤ es then some (o, .row ty es (xs.set i (x.take k ++ fs ++ x.drop (k + fs.length)))) else none else none
    | _ => none
  | _ => none

/-- A slice that may be appended to: its object (if it has one) and its elements. -/
def baseF : FV → Option (Option Nat × List (List FV))
  | .lit (.slice none 0 0) => some (none, [])
  | _ => none
def baseOf (H : Nat → Option EO) (ty : TypeId) (es : Nat) : EC → Option (Option Nat × List (List FV))
  | .fz x => baseF x
  | .row o len => match H o with
    | some (.row ty' es' xs) => if ty' = ty ∧ es' = es ∧ len = xs.length then some (some o, xs) else if ty' = ty ∧ es' = es ∧ len ≤ xs.length then some (some o, xs.take len) else none
    | _ => none
  | _ => none

/-- What a copy makes of an object. -/
def cpyAt (H : Nat → Option EO) (es : Nat) (d : EC) (ys : List (List FV)) : Option (Nat × EO × Nat) :=
  match d with
  | .bsl o k len => match H o with
    | some (.box ty cells) => if es = 1 ∧ k + len ≤ cells.length then some (o, .box ty (cells.take k ++ ((ys.take len).flatten.map EC.fz) ++ cells.drop (k + (ys.take len).flatten.length)), min ys.length len) else none
    | _ => none
  | .row o len => match H o with
    | some (.row ty es' xs) => if es = 1 ∧ es' = 1 ∧ 0 < xs.length ∧ len ≤ xs.length then some (o, .row ty 1 (xs.take 0 ++ ys.take len ++ xs.drop (0 + (ys.take len).length)), min ys.length len) else none
    | _ => none
  | .rsl o k len => match H o with
    | some (.row ty es' xs) => if es = 1 ∧ es' = 1 ∧ 0 < xs.length ∧ k + len ≤ xs.length then some (o, .row ty 1 (xs.take k ++ ys.take len ++ xs.drop (k + (ys.take len).length)), min ys.length len) else none
    | _ => none
  | _ => none

section
variable {P : Program} {o : Oper} {w0 : World} {m : Nat} {ρ0 : Nat → Value} {Φ0 : Nat → Prop} {H : Nat → Option EO} {X : Cx} {T : List EV} {a : Act} {id : Nat}

/-! ### stores -/
theorem Rel.setRow (r : Rel w0 m ρ0 Φ0 H X) {i : Nat} {x0 : EO} (hi : H i = some x0) {b : Nat} (hbi : hb (X.ρ i) = some b) (cur : Array Value) (x : EO)
    (hor : OR { X with w := X.w.setRow b cur } x (X.ρ i)) :
    Rel w0 m ρ0 Φ0 (upd H i (some x)) { X with w := X.w.setRow b cur } ∧ Later X { X with w := X.w.setRow b cur } :=
  r.write (w' := X.w.setRow b cur) rfl rfl rfl (by simp) i x0 hi b hbi (fun k hk => setRow_other _ _ _ _ hk) x hor

theorem later_setRow (r : Rel w0 m ρ0 Φ0 H X) {i : Nat} {x0 : EO} (hi : H i = some x0) {b : Nat} (hbi : hb (X.ρ i) = some b) (cur : Array Value) : Later X { X with w := X.w.setRow b cur } :=
  ⟨fun _ h => h, fun _ _ => rfl, fun _ h => h, fun _ hk => setRow_other _ _ _ _ (fun e => r.dis i x0 b hi hbi (e ▸ hk))⟩

theorem set_mid {α : Type} {es : Nat} {xs : List (List α)} (hl : ∀ x ∈ xs, x.length = es) {i : Nat} {x : List α} (hx : xs[i]? = some x) (k : Nat) (fs : List α) (hk : k + fs.length ≤ es) :
    (xs.set i (x.take k ++ fs ++ x.drop (k + fs.length))).flatten = xs.flatten.take (i * es + k) ++ fs ++ xs.flatten.drop (i * es + k + fs.length) := by
  have hi := lt_of_get hx
  have hxl := hl x (List.mem_of_getElem? hx)
  rw [flatten_set hl i hi]
  have hsplit : xs.flatten = xs.flatten.take (i * es) ++ (x ++ xs.flatten.drop (i * es + es)) := by
    have := flatten_set hl i hi x
    rw [List.append_assoc] at this
    rw [← this]
    congr 1
    rw [List.getElem?_eq_getElem hi] at hx
    rw [← Option.some.inj hx]
    simp
  have hA : (xs.flatten.take (i * es)).length = i * es := by
    rw [List.length_take, flatten_length hl]
    have := Nat.mul_le_mul_right es (show i ≤ xs.length by omega)
    omega
  generalize hAA : xs.flatten.take (i * es) = A at *
  generalize hBB : xs.flatten.drop (i * es + es) = B at *
  rw [hsplit]
  rw [List.take_append, List.drop_append, hA]
  rw [List.take_of_length_le (l := A) (by omega), List.drop_of_length_le (l := A) (by omega)]
  rw [show i * es + k - i * es = k by omega, show i * es + k + fs.length - i * es = k + fs.length by omega]
  rw [List.take_append_of_le_length (by omega), List.drop_append_of_le_length (by omega)]
  simp

theorem stoAt_sound (r : Rel w0 m ρ0 Φ0 H X) {p : EC} {v : Value} (hp : VR X p v) {cs : List EC} {vs : List Value} (hcs : All2 (VR X) cs vs) {i : Nat} {x : EO} (h : stoAt H p cs = some (i, x)) :
    ∃ b off w', v = .pointer (some ⟨b, off, none⟩) ∧ (storeCells ⟨b, off, none⟩ vs 0).run P X.w = .ok () w' ∧ Rel w0 m ρ0 Φ0 (upd H i (some x)) { X with w := w' } ∧ Later X { X with w := w' } := by
  have hone : ∀ u ∈ vs, u.oneCell' = true := by
    intro u hu
    obtain ⟨j, hj⟩ := List.getElem?_of_mem hu
    obtain ⟨c, _, hr⟩ := hcs.get' hj
    exact hr.oneCell
  unfold stoAt at h
  split at h
  · rename_i o' k
    split at h
    · rename_i ty cells hH
      split at h
      · rename_i hle
        simp only [Option.some.injEq, Prod.mk.injEq] at h
        obtain ⟨rfl, rfl⟩ := h
        obtain ⟨hu, b, hρ, rfl⟩ := hp
        obtain ⟨b', c, hh, hheap, hall⟩ := (r.obj o' _ hH).2
        rw [hρ] at hh
        simp at hh
        subst hh
        have hfit : k + 0 + vs.length ≤ c.size := by rw [← hcs.1]; have := hall.1; simp at this; omega
        have hst := run_storeCells_at P b k ty vs 0 c X.w hheap hfit hone
        have hbi : hb (X.ρ o') = some b := by rw [hρ]; rfl
        have hl := later_setRow r hH hbi (c.toList.take (k + 0) ++ vs ++ c.toList.drop (k + 0 + vs.length)).toArray
        refine ⟨b, k, _, rfl, hst, r.setRow hH hbi _ _ ?_⟩
        refine ⟨b, _, hρ, setRow_heap _ _ _ _ _ _ hheap, ?_⟩
        simp only [Nat.add_zero]
        have := (((hall.take k).append hcs).append (hall.drop (k + cs.length))).mono (fun _ _ => hl.vr)
        rw [hcs.1] at this ⊢
        simpa using this
      · simp at h
    · simp at h
  · rename_i o' es i' k
    split at h
    · rename_i ty es' xs hH
      split at h
      · rename_i he
        subst he
        replace h := bind_some' h; obtain ⟨y, hy, h⟩ := h
        replace h := bind_some' h; obtain ⟨fs, hfs, h⟩ := h
        split at h
        · rename_i hk
          simp only [Option.some.injEq, Prod.mk.injEq] at h
          obtain ⟨rfl, rfl⟩ := h
          obtain ⟨hu, b, n, cap, hρ, rfl⟩ := hp
          have hor := (r.obj o' _ hH).2
          rw [hρ] at hor
          obtain ⟨h0, hl, flat, how, hall⟩ := hor
          have hcf := frzAll_spec hfs
          subst hcf
          have hfv := All2_fz hcs
          rcases how.2 with ⟨hn, _⟩ | ⟨g, cap', cur, he, _, hg, hnc, hcm, hcs', htake⟩
          · simp at hn
          · simp only [Value.slice.injEq, Option.some.injEq, Addr.mk.injEq] at he
            obtain ⟨⟨rfl, _⟩, rfl, rfl⟩ := he
            have hi' := lt_of_get hy
            have hm : (i' + 1) * es' ≤ xs.length * es' := Nat.mul_le_mul_right _ hi'
            rw [Nat.add_mul] at hm
            have hcap : xs.length * es' ≤ cap * es' := Nat.mul_le_mul_right _ hnc
            have hvl : vs.length = fs.length := by rw [← hfv.1]
            have hfit : i' * es' + k + 0 + vs.length ≤ cur.size := by rw [hcs', hvl]; omega
            have hst := run_storeCells_at P b (i' * es' + k) ty vs 0 cur X.w hg hfit hone
            have hbi : hb (X.ρ o') = some b := by rw [hρ]; rfl
            have hlat := later_setRow r hH hbi (cur.toList.take (i' * es' + k + 0) ++ vs ++ cur.toList.drop (i' * es' + k + 0 + vs.length)).toArray
            refine ⟨b, i' * es' + k, _, rfl, hst, r.setRow hH hbi _ _ ?_⟩
            have hyl := hl y (List.mem_of_getElem? hy)
            rw [hρ]
            refine ⟨h0, len_of_set hl i' _ (by simp; omega), flat.take (i' * es' + k) ++ vs ++ flat.drop (i' * es' + k + vs.length), ?_, ?_⟩
            · have hfl : flat.length = xs.length * es' := how.1
              refine ⟨by simp; omega, .inr ⟨b, cap, _, by simp, Nat.zero_le _, setRow_heap _ _ _ _ _ _ hg, by simpa using hnc, hcm, ?_, ?_⟩⟩
              · simp; omega
              · simp only [Nat.add_zero, List.length_set]
                rw [← htake]
                apply List.ext_getElem?
                intro j
                simp only [List.getElem?_take, List.getElem?_append, List.getElem?_drop, List.length_append, List.length_take]
                have e1 : min (i' * es' + k) cur.toList.length = i' * es' + k := by simp; omega
                have e2 : min (i' * es' + k) (min (xs.length * es') cur.toList.length) = i' * es' + k := by simp; omega
                rw [e1, e2]
                by_cases h1 : j < xs.length * es'
                · rw [if_pos h1]
                  by_cases h2 : j < i' * es' + k
                  · simp [h2, show j < i' * es' + k + vs.length by omega, h1]
                  · by_cases h3 : j < i' * es' + k + vs.length
                    · simp [h2, h3]
                    · simp only [h3, if_false]
                      rw [if_pos (by omega)]
                · rw [if_neg h1]
                  rw [if_neg (by omega), if_neg (by omega)]
            · have key : All2 (FR X.Φ X.w) (xs.set i' (y.take k ++ fs ++ y.drop (k + fs.length))).flatten (flat.take (i' * es' + k) ++ vs ++ flat.drop (i' * es' + k + vs.length)) := by
                rw [set_mid hl hy k fs hk, hvl]
                exact ((hall.take _).append hfv).append (hall.drop _)
              exact key.mono (fun _ _ => hlat.fr)
        · simp at h
      · simp at h
    · simp at h
  · simp at h

theorem g_sto {t : TypeId} {n : Nat} {p x : Operand} (ho : o.op = .store t p x) (hn : sz P t = some n) (r : Rel w0 m ρ0 Φ0 H X) (ha : All2 (VV X) T a.tmps.toList) {pc : EC} (hp : asC (ev T (opd p)) = some pc) {cs : List EC} (hx : asCells (ev T (opd x)) = some cs) (hl : cs.length = n) {i : Nat} {ob : EO} (h : stoAt H pc cs = some (i, ob)) :
    ∃ w', (execOp a.eval o).run P X.w = .ok .skip w' ∧ Rel w0 m ρ0 Φ0 (upd H i (some ob)) { X with w := w' } ∧ Later X { X with w := w' } := by
  have hcs := VV_cells hx (VV_ev ha x)
  obtain ⟨b, off, w', e1, hst, r', l'⟩ := stoAt_sound (P := P) r (VV_c hp (VV_ev ha p)) hcs h
  refine ⟨w', ?_, r', l'⟩
  have hsz : (a.eval x).cells.size = n := by rw [← hl, hcs.1]; simp
  simp [execOp, ho, Instr.storeAt, e1, Instr.sureAddr, storeVar, run_sz hn, hsz, hst]

/-! ### append -/
/-- One object gives way to a new one, which may lie in its block or in a new one. -/
theorem Rel.grow (r : Rel w0 m ρ0 Φ0 H X) (old : Option Nat) (bo : Option Nat) (hold : bo = none ∨ ∃ o x, old = some o ∧ H o = some x ∧ hb (X.ρ o) = bo) {w' : World} (hg : X.w.grownBy w' bo) (hid : ¬ X.U id) (hm : m ≤ id)
    (h' : Value) (hat : hb h' = none ∨ hb h' = bo ∨ hb h' = some X.w.heap.size) (x' : EO) (hor : OR { U := fun o => X.U o ∨ o = id, ρ := upd X.ρ id h', Φ := X.Φ, w := w' } x' h') :
    Rel w0 m ρ0 Φ0 (upd (dropO H old) id (some x')) { U := fun o => X.U o ∨ o = id, ρ := upd X.ρ id h', Φ := X.Φ, w := w' } ∧
      Later X { U := fun o => X.U o ∨ o = id, ρ := upd X.ρ id h', Φ := X.Φ, w := w' } := by
  have ne : ∀ o, X.U o → o ≠ id := fun o hu e => hid (e ▸ hu)
  have nbo : ∀ b, X.Φ b → some b ≠ bo := by
    intro b hb' e
    rcases hold with h | ⟨o, x, _, hx, hh⟩
    · rw [h] at e; simp at e
    · exact r.dis o x b hx (by rw [hh, ← e]) hb'
  have hbl : ∀ b, b < X.w.heap.size → some b ≠ bo → w'.heap[b]? = X.w.heap[b]? := hg.block
  have hl : Later X { U := fun o => X.U o ∨ o = id, ρ := upd X.ρ id h', Φ := X.Φ, w := w' } :=
    ⟨fun _ h => .inl h, fun o hu => upd_ne _ _ _ (ne o hu), fun _ h => h, fun b hb' => hbl b (r.fro b hb') (nbo b hb')⟩
  have inH : ∀ o y, upd (dropO H old) id (some x') o = some y → (o = id ∧ y = x') ∨ (o ≠ id ∧ H o = some y ∧ old ≠ some o) := by
    intro o y hy
    by_cases e : o = id
    · subst e; rw [upd_same] at hy; exact .inl ⟨rfl, (Option.some.inj hy).symm⟩
    · rw [upd_ne _ _ _ e] at hy
      refine .inr ⟨e, ?_⟩
      cases old with
      | none => exact ⟨hy, by simp⟩
      | some oo =>
        by_cases e2 : o = oo
        · subst e2; simp [dropO, upd] at hy
        · simp only [dropO, upd_ne _ _ _ e2] at hy
          exact ⟨hy, by simp; exact fun h => e2 h.symm⟩
  have live_ne : ∀ o y b, H o = some y → old ≠ some o → hb (X.ρ o) = some b → some b ≠ bo := by
    intro o y b hy hne hbb e
    rcases hold with h | ⟨oo, x, ho, hx, hh⟩
    · rw [h] at e; simp at e
    · have := r.inj o oo y x b hy hx hbb (by rw [hh, ← e])
      exact hne (by rw [ho, this])
  have own_bo : ∀ b, bo = some b → w0.heap.size ≤ b ∨ ∃ o', o' < m ∧ hb (ρ0 o') = some b := by
    intro b e
    rcases hold with h | ⟨oo, x, ho, hx, hh⟩
    · rw [h] at e; simp at e
    · exact r.own oo x b hx (by rw [hh, e])
  have hgs := hg.size
  have rs := r.size
  have keepOR : ∀ o y, H o = some y → old ≠ some o → OR { U := fun o => X.U o ∨ o = id, ρ := upd X.ρ id h', Φ := X.Φ, w := w' } y (X.ρ o) := fun o y hy hne =>
    ((r.obj o y hy).2).later hl fun b hbb => hbl b (((r.obj o y hy).2).lt hbb) (live_ne o y b hy hne hbb)
  refine ⟨⟨hg.os.trans r.os, hg.tape.trans r.tape, hg.output.trans r.output, Nat.le_trans r.size hg.size, ?_, ?_, ?_, ?_, ?_, ?_, ?_, r.phi, r.glob.mono hl.Φ hl.w⟩, hl⟩
  · intro b hb' hn
    rw [← r.block b hb' hn]
    refine hbl b (by omega) ?_
    intro e
    rcases own_bo b e.symm with h | ⟨o', h1, h2⟩
    · omega
    · exact hn o' h1 h2
  · intro o ho'
    show upd X.ρ id h' o = ρ0 o
    rw [upd_ne _ _ _ (by omega)]
    exact r.pin o ho'
  · intro o y hy
    rcases inH o y hy with ⟨rfl, rfl⟩ | ⟨e, hy', hne⟩
    · exact ⟨.inr rfl, by simpa [upd_same] using hor⟩
    · refine ⟨.inl (r.obj o y hy').1, ?_⟩
      have : upd X.ρ id h' o = X.ρ o := upd_ne _ _ _ e
      simp only [this]
      exact keepOR o y hy' hne
  · have key : ∀ o y b, H o = some y → old ≠ some o → hb (X.ρ o) = some b → hb h' ≠ some b := by
      intro o y b hy hne hbb e
      rcases hat with h | h | h
      · rw [h] at e; simp at e
      · exact live_ne o y b hy hne hbb (by rw [← h, e])
      · have := ((r.obj o y hy).2).lt hbb
        rw [h] at e
        have := Option.some.inj e
        omega
    intro o o' y y' b hy hy' e1 e2
    rcases inH o y hy with ⟨rfl, rfl⟩ | ⟨ne1, h1, q1⟩
    · rcases inH o' y' hy' with ⟨rfl, rfl⟩ | ⟨ne2, h2, q2⟩
      · rfl
      · exfalso
        simp only [upd_same, upd_ne _ _ _ ne2] at e1 e2
        exact key o' y' b h2 q2 e2 e1
    · rcases inH o' y' hy' with ⟨rfl, rfl⟩ | ⟨ne2, h2, q2⟩
      · exfalso
        simp only [upd_same, upd_ne _ _ _ ne1] at e1 e2
        exact key o y b h1 q1 e1 e2
      · simp only [upd_ne _ _ _ ne1, upd_ne _ _ _ ne2] at e1 e2
        exact r.inj o o' y y' b h1 h2 e1 e2
  · intro o y b hy e1
    rcases inH o y hy with ⟨rfl, rfl⟩ | ⟨ne1, h1, q1⟩
    · simp only [upd_same] at e1
      rcases hat with h | h | h
      · rw [h] at e1; simp at e1
      · exact own_bo b (by rw [← h, e1])
      · rw [h] at e1
        have := Option.some.inj e1
        exact .inl (by omega)
    · simp only [upd_ne _ _ _ ne1] at e1
      exact r.own o y b h1 e1
  · intro o y b hy e1 hΦ
    rcases inH o y hy with ⟨rfl, rfl⟩ | ⟨ne1, h1, q1⟩
    · simp only [upd_same] at e1
      rcases hat with h | h | h
      · rw [h] at e1; simp at e1
      · exact nbo b hΦ (by rw [← h, e1])
      · rw [h] at e1
        have := Option.some.inj e1
        have := r.fro b hΦ
        omega
    · simp only [upd_ne _ _ _ ne1] at e1
      exact r.dis o y b h1 e1 hΦ
  · intro b hΦ
    have := r.fro b hΦ
    have := hg.size
    show b < w'.heap.size
    omega

theorem own_hb (v : Value) {a' : Option Addr} {n c : Nat} (h : v = .slice a' n c) : v.ownBlock = hb v := by
  subst h; cases a' <;> rfl

theorem run_append_none {w : World} {t e : TypeId} {ty : TypeId} {i : TypeInfo} (ht : P.underlying t = some (.slice e)) (hi : P.info? e = some i) (base : Option Addr) (n cap c : Nat) (h : n ≤ cap) :
    (Builtin.append_ #[t, t] ty #[.slice base n cap, .slice none 0 c]).run P w = .ok (.slice base n cap) w := by
  cases base <;> simp [Builtin.append_, run_underlying ht, sizeOf, typeInfo, hi, Builtin.lenOf, h, Builtin.firstCells, storeCells]

theorem g_app {t e : TypeId} {i : TypeInfo} {z : List Value} {s x : Operand} {args : Array Operand} {ts : Array TypeId} (ho : o.op = .call { callee := .builtin .append, args := args, argTypes := ts }) (hargs : args.toList = [s, x]) (hts : ts.toList = [t, t]) (ht : P.underlying t = some (.slice e)) (hi : P.info? e = some i) (hz : zer P e = some z) (hzl : z.length = i.size) (h0 : 0 < i.size)
    (r : Rel w0 m ρ0 Φ0 H X) (ha : All2 (VV X) T a.tmps.toList) (hid : ¬ X.U id) (hm : m ≤ id)
    {sc : EC} (hs : asC (ev T (opd s)) = some sc) {old : Option Nat} {xs : List (List FV)} (hb1 : baseOf H e i.size sc = some (old, xs))
    {xc : EC} (hx : asC (ev T (opd x)) = some xc) {ys : List (List FV)} (hy : elems2 H i.size xc = some ys)
    (h63 : xs.length + ys.length ≤ 9223372036854775807) (hby : (xs.length + ys.length) * i.bytes ≤ 140737488355328) :
    ∃ val w', (execOp a.eval o).run P X.w = .ok (.value val) w' ∧
      Rel w0 m ρ0 Φ0 (upd (dropO H old) id (some (.row e i.size (xs ++ ys)))) { U := fun o => X.U o ∨ o = id, ρ := upd X.ρ id val, Φ := X.Φ, w := w' } ∧
      Later X { U := fun o => X.U o ∨ o = id, ρ := upd X.ρ id val, Φ := X.Φ, w := w' } ∧
      VV { U := fun o => X.U o ∨ o = id, ρ := upd X.ρ id val, Φ := X.Φ, w := w' } (.v (.c (.row id (xs.length + ys.length)))) val := by
  obtain rfl : args = #[s, x] := by cases args; simp_all
  obtain rfl : ts = #[t, t] := by cases ts; simp_all
  have hsv := VV_c hs (VV_ev ha s)
  have hxv := VV_c hx (VV_ev ha x)
  obtain ⟨hyl, ad, cap, vs, ex, hcap, hvs, hcell⟩ := elems2_spec r hxv hy
  obtain ⟨i', zv, hi', hzi, hzc, hone⟩ := zer_some hz
  obtain rfl : i' = i := Option.some.inj (hi'.symm.trans hi)
  have hzs : zv.cells.size = i'.size := by rw [← hzl, ← hzc]; simp
  have hvl : vs.length = ys.length * i'.size := by rw [← hvs.1, flatten_length hyl]
  have h1v : ∀ u ∈ vs, u.oneCell' = true := by
    intro u hu
    obtain ⟨j, hj⟩ := List.getElem?_of_mem hu
    obtain ⟨c, _, hr⟩ := hvs.get' hj
    exact hr.oneCell
  -- the slice that is appended to
  obtain ⟨flat, how, hall, hxl, hold⟩ : ∃ flat, X.w.ownsRow 0 e i'.size (a.eval s) xs.length flat ∧ All2 (FR X.Φ X.w) xs.flatten flat ∧ (∀ x ∈ xs, x.length = i'.size) ∧ ((a.eval s).ownBlock = none ∨ ∃ o x, old = some o ∧ H o = some x ∧ hb (X.ρ o) = (a.eval s).ownBlock) := by
    unfold baseOf at hb1
    split at hb1
    · unfold baseF at hb1
      split at hb1
      · simp only [Option.some.injEq, Prod.mk.injEq] at hb1
        obtain ⟨rfl, rfl⟩ := hb1
        have hsv' : FR X.Φ X.w (.lit (.slice none 0 0)) (a.eval s) := hsv
        generalize a.eval s = sv at hsv'
        cases hsv'
        exact ⟨[], World.ownsRow_nil _ _ _ _, by simpa using All2.nil, by simp, .inl rfl⟩
      · simp at hb1
    · rename_i o' len
      split at hb1
      · rename_i ty' es' ys' hH
        split at hb1
        · rename_i hh
          obtain ⟨rfl, rfl, rfl⟩ := hh
          simp only [Option.some.injEq, Prod.mk.injEq] at hb1
          obtain ⟨rfl, rfl⟩ := hb1
          obtain ⟨hu, ad', n, cap', hρ, q1, q2, q3⟩ := hsv
          have hor := (r.obj o' _ hH).2
          obtain ⟨_, hl, flat, how, hall⟩ := hor
          have hn : n = ys'.length := by
            rw [hρ] at how
            rcases how.2 with ⟨hn, hz⟩ | ⟨g, cap', cur, he, _⟩
            · simp only [Value.slice.injEq] at hn; omega
            · simp only [Value.slice.injEq] at he; omega
          subst hn
          rw [q3, ← hρ]
          exact ⟨flat, how, hall, hl, .inr ⟨o', _, rfl, hH, (own_hb _ hρ).symm⟩⟩
        · split at hb1
          · rename_i hne hh
            obtain ⟨rfl, rfl, hle⟩ := hh
            simp only [Option.some.injEq, Prod.mk.injEq] at hb1
            obtain ⟨rfl, rfl⟩ := hb1
            have hlt : len < ys'.length := by
              rcases Nat.lt_or_ge len ys'.length with h | h
              · exact h
              · exact absurd ⟨rfl, rfl, by omega⟩ hne
            obtain ⟨hu, ad', n, cap', hρ, q1, q2, q3⟩ := hsv
            have hor := (r.obj o' _ hH).2
            obtain ⟨_, hl, flat, how, hall⟩ := hor
            rw [hρ] at how
            have htl : (ys'.take len).length = len := by rw [List.length_take]; omega
            rcases how.2 with ⟨hn, hz⟩ | ⟨g, cap'', cur, he, hb0, hg, hnc, hcm, hcs, htk⟩
            · omega
            · simp only [Value.slice.injEq] at he
              obtain ⟨rfl, rfl, rfl⟩ := he
              have hft : (ys'.take len).flatten = ys'.flatten.take (len * i'.size) := flatten_take hl len
              have hmul : len * i'.size ≤ ys'.length * i'.size := Nat.mul_le_mul_right _ (by omega)
              refine ⟨flat.take (len * i'.size), ⟨?_, .inr ⟨g, cap', cur, ?_, hb0, hg, ?_, hcm, hcs, ?_⟩⟩, ?_, ?_, .inr ⟨o', _, rfl, hH, ?_⟩⟩
              · rw [List.length_take, how.1, htl]; omega
              · rw [q3, htl]
              · rw [htl]; omega
              · rw [htl, ← htk, List.take_take]
                congr 1
                omega
              · rw [hft]; exact hall.take _
              · intro x hx; exact hl x (List.mem_of_mem_take hx)
              · rw [hρ, q3]; rfl
          · simp at hb1
      · simp at hb1
    · simp at hb1
  have run : ∀ r', (Builtin.append_ #[t, t] o.type #[a.eval s, a.eval x]).run P X.w = r' → ∀ v' w', r' = .ok v' w' → (execOp a.eval o).run P X.w = .ok (.value v') w' := by
    intro r' h v' w' e'
    simp [execOp, ho, resolve, invoke, builtin, h, e']
  -- what comes of it
  have fin : ∀ v' w', (Builtin.append_ #[t, t] o.type #[a.eval s, a.eval x]).run P X.w = .ok v' w' → w'.ownsRow 0 e i'.size v' (xs.length + ys.length) (flat ++ vs) → X.w.grownBy w' (a.eval s).ownBlock → (v'.ownBlock = none ∨ v'.ownBlock = (a.eval s).ownBlock ∨ v'.ownBlock = some X.w.heap.size) →
      ∃ val w', (execOp a.eval o).run P X.w = .ok (.value val) w' ∧
      Rel w0 m ρ0 Φ0 (upd (dropO H old) id (some (.row e i'.size (xs ++ ys)))) { U := fun o => X.U o ∨ o = id, ρ := upd X.ρ id val, Φ := X.Φ, w := w' } ∧
      Later X { U := fun o => X.U o ∨ o = id, ρ := upd X.ρ id val, Φ := X.Φ, w := w' } ∧
      VV { U := fun o => X.U o ∨ o = id, ρ := upd X.ρ id val, Φ := X.Φ, w := w' } (.v (.c (.row id (xs.length + ys.length)))) val := by
    intro v' w' hrun hown hgr hat
    obtain ⟨a', n', c', hv'⟩ : ∃ a' c', v' = .slice a' (xs.length + ys.length) c' ∧ xs.length + ys.length ≤ c' := by
      rcases hown.2 with ⟨h1, h2⟩ | ⟨g, cap', cur, h1, _, _, h2, _⟩
      · exact ⟨none, 0, by rw [h1, h2], by omega⟩
      · exact ⟨_, cap', h1, h2⟩
    have hh := own_hb v' c'
    have nbo : ∀ b, X.Φ b → some b ≠ (a.eval s).ownBlock := by
      intro b hb' e'
      rcases hold with h | ⟨o, x, _, hx, hh⟩
      · rw [h] at e'; simp at e'
      · exact r.dis o x b hx (by rw [hh, ← e']) hb'
    have hl0 : Later X { U := fun o => X.U o ∨ o = id, ρ := upd X.ρ id v', Φ := X.Φ, w := w' } :=
      ⟨fun _ h => .inl h, fun o hu => upd_ne _ _ _ (fun e => hid (e ▸ hu)), fun _ h => h, fun b hb' => hgr.block b (r.fro b hb') (nbo b hb')⟩
    obtain ⟨r', l'⟩ := r.grow old (a.eval s).ownBlock hold hgr hid hm v' (by rw [← hh]; exact hat) (.row e i'.size (xs ++ ys))
      ⟨h0, by intro x' hx'; rcases List.mem_append.1 hx' with h | h; exact hxl x' h; exact hyl x' h, flat ++ vs, by rw [List.length_append]; exact hown, by
        rw [List.flatten_append]
        exact (hall.append hvs).mono (fun _ _ => hl0.fr)⟩
    refine ⟨v', w', run _ hrun v' w' rfl, r', l', .inr rfl, a', xs.length + ys.length, n', ?_, Nat.le_refl _, hv', c'⟩
    simp [upd_same, c']
  cases ad with
  | none =>
    have hy0 : ys = [] := by
      apply Classical.byContradiction
      intro hne
      obtain ⟨b, off, hc, _⟩ := hcell hne
      simp at hc
    subst hy0
    have hv0 : vs = [] := List.eq_nil_of_length_eq_zero (by simpa using hvl)
    subst hv0
    obtain ⟨base, c, hsl, hle⟩ : ∃ base c, a.eval s = .slice base xs.length c ∧ xs.length ≤ c := by
      rcases how.2 with ⟨h1, h2⟩ | ⟨g, cap', cur, h1, _, _, h2, _⟩
      · exact ⟨none, 0, by rw [h1, h2], by omega⟩
      · exact ⟨_, cap', h1, h2⟩
    refine fin (a.eval s) X.w ?_ (by simpa using how) ⟨rfl, rfl, rfl, Nat.le_refl _, fun _ _ _ => rfl⟩ (.inr (.inl rfl))
    rw [hsl, ex]
    exact run_append_none ht hi base _ _ _ hle
  | some ad =>
    have hnews : ∀ (j : Nat) (u : Value), vs[j]? = some u → X.w.cell? (ad.add j) = some u := by
      intro j u hu
      have hne : ys ≠ [] := by
        rintro rfl
        have : vs = [] := List.eq_nil_of_length_eq_zero (by simpa using hvl)
        subst this
        simp at hu
      obtain ⟨b, off, hc, hcc⟩ := hcell hne
      obtain rfl := Option.some.inj hc
      rw [Addr.add_lit]
      exact hcc j u hu
    obtain ⟨v', w', hrun, hown, hgr, _, hat⟩ := run_append_own_at (P := P) X.w 0 t o.type e i' zv i'.size i'.bytes ht hi hzi rfl rfl hzs h0 (a.eval s) xs.length flat how ad ys.length cap vs hvl hnews h1v (by unfold maxLen; omega) hby (Nat.zero_le _)
    rw [← ex] at hrun
    exact fin v' w' hrun hown hgr (.inr hat)

/-- So many single cells laid into a row. -/
theorem cpyRow_sound (r : Rel w0 m ρ0 Φ0 H X) {o' : Nat} {ty : TypeId} {xs : List (List FV)} (hH : H o' = some (.row ty 1 xs)) (hne : xs ≠ []) {k : Nat} {fs : List (List FV)} {vs : List Value} (hfs : ∀ x ∈ fs, x.length = 1) (hfv : All2 (FR X.Φ X.w) fs.flatten vs) (hone : ∀ u ∈ vs, u.oneCell' = true) (hk : k + fs.length ≤ xs.length) :
    ∃ b n cap w', X.ρ o' = .slice (some ⟨b, 0, none⟩) n cap ∧ (storeCells ⟨b, k, none⟩ vs 0).run P X.w = .ok () w' ∧ Rel w0 m ρ0 Φ0 (upd H o' (some (.row ty 1 (xs.take k ++ fs ++ xs.drop (k + fs.length))))) { X with w := w' } ∧ Later X { X with w := w' } := by
  have hor := (r.obj o' _ hH).2
  obtain ⟨h0, hl, flat, how, hall⟩ := hor
  have hxp : 0 < xs.length := List.length_pos_iff.2 hne
  have hvf : vs.length = fs.length := by rw [← hfv.1, flatten_length hfs, Nat.mul_one]
  have hfl : flat.length = xs.length := by rw [how.1, Nat.mul_one]
  rcases how.2 with ⟨_, hx⟩ | ⟨b, cap, cur, hρ, _, hg, hnc, hcm, hcs', htake⟩
  · omega
  · have hfit : k + 0 + vs.length ≤ cur.size := by rw [hcs', hvf]; omega
    have hst := run_storeCells_at P b k ty vs 0 cur X.w hg hfit hone
    have hbi : hb (X.ρ o') = some b := by rw [hρ]; rfl
    have hlat := later_setRow r hH hbi (cur.toList.take (k + 0) ++ vs ++ cur.toList.drop (k + 0 + vs.length)).toArray
    refine ⟨b, xs.length, cap, _, hρ, hst, r.setRow hH hbi _ _ ?_⟩
    have hnl : (xs.take k ++ fs ++ xs.drop (k + fs.length)).length = xs.length := by simp; omega
    refine ⟨h0, ?_, flat.take k ++ vs ++ flat.drop (k + vs.length), ?_, ?_⟩
    · intro x hx
      rcases List.mem_append.1 hx with hx | hx
      · rcases List.mem_append.1 hx with hx | hx
        · exact hl x (List.mem_of_mem_take hx)
        · exact hfs x hx
      · exact hl x (List.mem_of_mem_drop hx)
    · rw [hnl]
      refine ⟨by simp; omega, .inr ⟨b, cap, _, hρ, Nat.zero_le _, setRow_heap _ _ _ _ _ _ hg, hnc, hcm, ?_, ?_⟩⟩
      · simp; omega
      · simp only [Nat.add_zero]
        rw [← htake]
        apply List.ext_getElem?
        intro j
        simp only [List.getElem?_take, List.getElem?_append, List.getElem?_drop, List.length_append, List.length_take]
        have e1 : min k cur.toList.length = k := by simp; omega
        have e2 : min k (min (xs.length * 1) cur.toList.length) = k := by simp; omega
        rw [e1, e2]
        by_cases h1 : j < xs.length * 1
        · rw [if_pos h1]
          by_cases h2 : j < k
          · have h1' : j < xs.length := by omega
            simp [h2, show j < k + vs.length by omega, h1']
          · by_cases h3 : j < k + vs.length
            · simp [h2, h3]
            · simp only [h3, if_false]
              rw [if_pos (by omega)]
        · rw [if_neg h1]
          rw [if_neg (by omega), if_neg (by omega)]
    · have key : All2 (FR X.Φ X.w) (xs.take k ++ fs ++ xs.drop (k + fs.length)).flatten (flat.take k ++ vs ++ flat.drop (k + vs.length)) := by
        rw [List.flatten_append, List.flatten_append, flatten_take hl, flatten_drop hl, hvf, Nat.mul_one, Nat.mul_one]
        exact ((hall.take _).append hfv).append (hall.drop _)
      exact key.mono (fun _ _ => hlat.fr)

/-! ### copy -/
theorem g_cpy {t e : TypeId} {es : Nat} {d s : Operand} {args : Array Operand} {ts : Array TypeId} (ho : o.op = .call { callee := .builtin .copy, args := args, argTypes := ts }) (hargs : args.toList = [d, s]) (hts : ts.toList.head? = some t) (ht : P.underlying t = some (.slice e)) (hes : sz P e = some es)
    (r : Rel w0 m ρ0 Φ0 H X) (ha : All2 (VV X) T a.tmps.toList)
    {dc : EC} (hd : asC (ev T (opd d)) = some dc) {xc : EC} (hx : asC (ev T (opd s)) = some xc) {ys : List (List FV)} (hy : elems2 H es xc = some ys) {i n : Nat} {ob : EO} (h : cpyAt H es dc ys = some (i, ob, n)) :
    ∃ w', (execOp a.eval o).run P X.w = .ok (.value (.int .i64 n)) w' ∧ Rel w0 m ρ0 Φ0 (upd H i (some ob)) { X with w := w' } ∧ Later X { X with w := w' } := by
  obtain rfl : args = #[d, s] := by cases args; simp_all
  have hts' : ts[0]? = some t := by
    rw [List.head?_eq_getElem?] at hts
    simpa using hts
  have hdv := VV_c hd (VV_ev ha d)
  have hxv := VV_c hx (VV_ev ha s)
  obtain ⟨hyl, ad, cap, vs, ex, hcap, hvs, hcell⟩ := elems2_spec r hxv hy
  have hvl : vs.length = ys.length * es := by rw [← hvs.1, flatten_length hyl]
  have hfirst : ∀ mm, es = 1 → mm ≤ ys.length → (Builtin.firstCells 1 mm (.slice ad ys.length cap)).run P X.w = .ok (vs.take mm).toArray X.w := by
    rintro mm rfl hmm
    cases ad with
    | none =>
      have hy0 : ys = [] := by
        apply Classical.byContradiction
        intro hne
        obtain ⟨b, off, hc, _⟩ := hcell hne
        simp at hc
      subst hy0
      obtain rfl : mm = 0 := by simpa using hmm
      simp [Builtin.firstCells]
    | some ad =>
      refine run_firstCells_some (P := P) X.w 1 _ ad ys.length cap _ (by simp; omega) ?_
      intro j u hu'
      rw [List.getElem?_take] at hu'
      split at hu'
      · have hne : ys ≠ [] := by
          rintro rfl
          have : vs = [] := List.eq_nil_of_length_eq_zero (by simpa using hvl)
          subst this
          simp at hu'
        obtain ⟨b, off, hc, hcc⟩ := hcell hne
        obtain rfl := Option.some.inj hc
        rw [Addr.add_lit]
        exact hcc j u hu'
      · simp at hu'
  have row : ∀ (o' k len : Nat) (ty : TypeId) (xs : List (List FV)), H o' = some (.row ty 1 xs) → 0 < xs.length → k + len ≤ xs.length → es = 1 →
      (∃ aa n c, X.ρ o' = .slice aa n c ∧ ∃ cap, len ≤ cap ∧ a.eval d = .slice (aa.map fun ad => ad.add k) len cap) →
      ∃ w', (execOp a.eval o).run P X.w = .ok (.value (.int .i64 (min ys.length len : Nat))) w' ∧ Rel w0 m ρ0 Φ0 (upd H o' (some (.row ty 1 (xs.take k ++ ys.take len ++ xs.drop (k + (ys.take len).length))))) { X with w := w' } ∧ Later X { X with w := w' } := by
    rintro o' k len ty xs hH hne hle rfl ⟨aa, n', c', hρ', cap', hcap', e1⟩
    have hfl : (ys.take len).flatten.length = min ys.length len := by
      rw [flatten_length (es := 1) (fun x hx => hyl x (List.mem_of_mem_take hx))]
      simp; omega
    have hcs : All2 (FR X.Φ X.w) (ys.take len).flatten (vs.take (min ys.length len)) := by
      rw [flatten_take hyl, Nat.mul_one]
      have h1 := hvs.take len
      have h2 : vs.take (min ys.length len) = vs.take len := by
        rw [show ys.length = vs.length by omega]
        rcases Nat.le_total vs.length len with h | h
        · rw [Nat.min_eq_left h, List.take_length, List.take_of_length_le h]
        · rw [Nat.min_eq_right h]
      rw [h2]
      exact h1
    have hone : ∀ u ∈ vs.take (min ys.length len), u.oneCell' = true := by
      intro u hu
      obtain ⟨j, hj⟩ := List.getElem?_of_mem hu
      obtain ⟨c, _, hr⟩ := hcs.get' hj
      exact hr.oneCell
    obtain ⟨b, n, cap2, w', hρ, hst, r', l'⟩ := cpyRow_sound (P := P) r hH (List.length_pos_iff.1 hne) (k := k) (fs := ys.take len) (fun x hx => hyl x (List.mem_of_mem_take hx)) hcs hone (by simp; omega)
    rw [hρ] at hρ'
    simp only [Value.slice.injEq] at hρ'
    obtain ⟨rfl, rfl, rfl⟩ := hρ'
    refine ⟨w', ?_, r', l'⟩
    have hf := hfirst (min ys.length len) rfl (by omega)
    have hmin : Nat.min ys.length len = min ys.length len := rfl
    have e1' : a.eval d = .slice (some ⟨b, k, none⟩) len cap' := by rw [e1]; simp [Addr.add_lit]
    simp [execOp, ho, resolve, invoke, builtin, e1', ex, Builtin.copy_, hts', run_underlying ht, Builtin.lenOf, run_sz hes, hmin, hf, hst, goInt]
  unfold cpyAt at h
  split at h
  · rename_i o' k len
    split at h
    · rename_i ty cells hH
      split at h
      · rename_i hb
        obtain ⟨rfl, hle⟩ := hb
        simp only [Option.some.injEq, Prod.mk.injEq] at h
        obtain ⟨rfl, rfl, rfl⟩ := h
        have hfl : (ys.take len).flatten.length = min ys.length len := by
          rw [flatten_length (es := 1) (fun x hx => hyl x (List.mem_of_mem_take hx))]
          simp; omega
        have hcs : All2 (VR X) ((ys.take len).flatten.map EC.fz) (vs.take (min ys.length len)) := by
          rw [flatten_take hyl, Nat.mul_one]
          have h1 := hvs.take len
          have h2 : vs.take (min ys.length len) = vs.take len := by
            rw [show ys.length = vs.length by omega]
            rcases Nat.le_total vs.length len with h | h
            · rw [Nat.min_eq_left h, List.take_length, List.take_of_length_le h]
            · rw [Nat.min_eq_right h]
          rw [h2]
          refine ⟨by rw [List.length_map]; exact h1.1, ?_⟩
          intro j x y hx hy
          rw [List.getElem?_map] at hx
          obtain ⟨z, hz, rfl⟩ := map_some' hx
          exact h1.2 j z y hz hy
        obtain ⟨hu, b, hρ, cap', hcap', e1⟩ := hdv
        obtain ⟨b', off', w', e2, hst, r', l'⟩ := stoAt_sound (P := P) r (p := .ptr o' k) (v := .pointer (some ⟨b, k, none⟩)) ⟨hu, b, hρ, rfl⟩ hcs (i := o') (x := .box ty (cells.take k ++ (ys.take len).flatten.map EC.fz ++ cells.drop (k + (ys.take len).flatten.length)))
          (by simp only [stoAt, hH]; rw [if_pos (by rw [List.length_map, hfl]; omega), List.length_map])
        simp only [Value.pointer.injEq, Option.some.injEq, Addr.mk.injEq] at e2
        obtain ⟨rfl, rfl, _⟩ := e2
        refine ⟨w', ?_, r', l'⟩
        have hfirst : (Builtin.firstCells 1 (min ys.length len) (.slice ad ys.length cap)).run P X.w = .ok (vs.take (min ys.length len)).toArray X.w := by
          cases ad with
          | none =>
            have hy0 : ys = [] := by
              apply Classical.byContradiction
              intro hne
              obtain ⟨b, off, hc, _⟩ := hcell hne
              simp at hc
            subst hy0
            simp [Builtin.firstCells]
          | some ad =>
            refine run_firstCells_some (P := P) X.w 1 _ ad ys.length cap _ (by simp; omega) ?_
            intro j u hu'
            rw [List.getElem?_take] at hu'
            split at hu'
            · have hne : ys ≠ [] := by
                rintro rfl
                have : vs = [] := List.eq_nil_of_length_eq_zero (by simpa using hvl)
                subst this
                simp at hu'
              obtain ⟨b, off, hc, hcc⟩ := hcell hne
              obtain rfl := Option.some.inj hc
              rw [Addr.add_lit]
              exact hcc j u hu'
            · simp at hu'
        have hmin : Nat.min ys.length len = min ys.length len := rfl
        simp [execOp, ho, resolve, invoke, builtin, e1, ex, Builtin.copy_, hts', run_underlying ht, Builtin.lenOf, run_sz hes, hmin, hfirst, hst, goInt]
      · simp at h
    · simp at h
  · rename_i o' len
    split at h
    · rename_i ty es' xs hH
      split at h
      · rename_i hb
        obtain ⟨rfl, rfl, hne, hle⟩ := hb
        simp only [Option.some.injEq, Prod.mk.injEq] at h
        obtain ⟨rfl, rfl, rfl⟩ := h
        obtain ⟨hu, ad', n', cap', hρ', q1, q2, e1⟩ := hdv
        exact row o' 0 len ty xs hH hne (by omega) rfl (by rw [hρ'] ; exact ⟨ad', n', cap', rfl, cap', by omega, by rw [e1]; cases ad' <;> simp [Addr.add_zero']⟩)
      · simp at h
    · simp at h
  · rename_i o' k len
    split at h
    · rename_i ty es' xs hH
      split at h
      · rename_i hb
        obtain ⟨rfl, rfl, hne, hle⟩ := hb
        simp only [Option.some.injEq, Prod.mk.injEq] at h
        obtain ⟨rfl, rfl, rfl⟩ := h
        obtain ⟨hu, ad', n', c', cap', hρ', q1, e1⟩ := hdv
        exact row o' k len ty xs hH hne hle rfl (by rw [hρ']; exact ⟨ad', n', c', rfl, cap', q1, e1⟩)
      · simp at h
    · simp at h
  · simp at h

/-! ### a row that becomes frozen (a conversion of bytes to bytes marks them) -/
theorem Rel.still (r : Rel w0 m ρ0 Φ0 H X) {w' : World}
    (ho : w'.os = X.w.os) (ht : w'.tape = X.w.tape) (hp : w'.output = X.w.output) (hs : w'.heap.size = X.w.heap.size)
    (i : Nat) (x0 : EO) (hi : H i = some x0) (b : Nat) (hbi : hb (X.ρ i) = some b) (hbl : ∀ k, k ≠ b → w'.heap[k]? = X.w.heap[k]?) :
    Rel w0 m ρ0 Φ0 (upd H i none) { X with Φ := fun k => X.Φ k ∨ k = b, w := w' } ∧ Later X { X with Φ := fun k => X.Φ k ∨ k = b, w := w' } := by
  have nΦ : ∀ k, X.Φ k → k ≠ b := fun k hk e => r.dis i x0 b hi hbi (e ▸ hk)
  have hl : Later X { X with Φ := fun k => X.Φ k ∨ k = b, w := w' } := ⟨fun _ h => h, fun _ _ => rfl, fun _ h => .inl h, fun k hk => hbl k (nΦ k hk)⟩
  have inH : ∀ o y, upd H i none o = some y → o ≠ i ∧ H o = some y := by
    intro o y hy
    by_cases e : o = i
    · subst e; rw [upd_same] at hy; simp at hy
    · rw [upd_ne _ _ _ e] at hy; exact ⟨e, hy⟩
  refine ⟨⟨ho.trans r.os, ht.trans r.tape, hp.trans r.output, by simp only [hs]; exact r.size, ?_, r.pin, ?_, ?_, ?_, ?_, ?_, ?_, r.glob.mono hl.Φ hl.w⟩, hl⟩
  · intro k hk hn
    have : k ≠ b := by
      rintro rfl
      rcases r.own i x0 k hi hbi with h | ⟨o', h1, h2⟩
      · omega
      · exact hn o' h1 h2
    exact (hbl k this).trans (r.block k hk hn)
  · intro o y hy
    obtain ⟨e, hy'⟩ := inH o y hy
    obtain ⟨hu, hor'⟩ := r.obj o y hy'
    refine ⟨hu, hor'.later hl fun k hk => hbl k ?_⟩
    rintro rfl
    exact e (r.inj o i y x0 k hy' hi hk hbi)
  · intro o o' y y' k h1 h2
    exact r.inj o o' y y' k (inH o y h1).2 (inH o' y' h2).2
  · intro o y k h1
    exact r.own o y k (inH o y h1).2
  · intro o y k h1 e1 hΦ
    obtain ⟨e, h1'⟩ := inH o y h1
    rcases hΦ with hΦ | rfl
    · exact r.dis o y k h1' e1 hΦ
    · exact e (r.inj o i y x0 k h1' hi e1 hbi)
  · intro k hk
    simp only [hs]
    rcases hk with hk | rfl
    · exact r.fro k hk
    · exact (r.obj i x0 hi).2.lt hbi
  · intro k hk
    rcases hk with hk | rfl
    · exact r.phi k hk
    · exact .inr (r.own i x0 k hi hbi)

theorem g_mrk {t e : TypeId} {x : Operand} (ho : o.op = .convert t t x) (ht : P.underlying t = some (.slice e)) (he : P.underlying e = some (.int .u8))
    (r : Rel w0 m ρ0 Φ0 H X) (ha : All2 (VV X) T a.tmps.toList) {i len : Nat} (hx : asC (ev T (opd x)) = some (.row i len)) {ty : TypeId} {xs : List (List FV)} (hi : H i = some (.row ty 1 xs)) (hl : len = xs.length) (hne : xs ≠ []) :
    ∃ val X', (execOp a.eval o).run P X.w = .ok (.value val) X'.w ∧ Rel w0 m ρ0 Φ0 (upd H i none) X' ∧ Later X X' ∧ (∀ j, X'.U j ↔ X.U j) ∧ VV X' (.v (.c (.fz (.sl 1 xs)))) val := by
  obtain ⟨hu, ad, n, cap, hρ, h1, h2, hv⟩ := VV_c hx (VV_ev ha x)
  obtain ⟨_, h0, hlen, flat, how, hall⟩ := r.obj i _ hi
  have hxp : 0 < xs.length := List.length_pos_iff.2 hne
  rw [hρ] at how
  obtain ⟨hfl, ⟨e1, e2⟩ | ⟨g, cap', cur, e1, _, hg, hnc, hcm, hcs, htk⟩⟩ := how
  · omega
  simp only [Value.slice.injEq] at e1
  obtain ⟨rfl, rfl, rfl⟩ := e1
  subst hl
  have hb0 : hb (X.ρ i) = some g := by rw [hρ]; rfl
  have hsh : X.w.shape? g = some (ty, cur.size) := by simp [World.shape?, hg]
  obtain ⟨r', l'⟩ := r.still (w' := X.w.freeze ⟨g, cur.size, none⟩ 1) rfl rfl rfl (by simp [World.freeze]) i _ hi g hb0 (by
    intro k hk
    simp [World.freeze, Array.getElem?_modify, Ne.symm hk])
  have hnew : (X.w.freeze ⟨g, cur.size, none⟩ 1).heap[g]? = some (.cells cur ty (cur.size, cur.size + 1)) := by
    simp [World.freeze, Array.getElem?_modify, hg]
  refine ⟨.slice (some ⟨g, 0, none⟩) xs.length cap, _, ?_, r', l', fun j => Iff.rfl, ?_⟩
  · simp only [execOp, ho, hv, Sem.run_bind, convert, run_underlying ht, Result.andThen_ok, beq_self_eq_true, run_underlying he]
    simp [markStringish, hsh]
  · have := FR.sl (Φ := fun k => X.Φ k ∨ k = g) (w := X.w.freeze ⟨g, cur.size, none⟩ 1) 1 xs g 0 cap flat (.inr rfl) (by omega) hlen hfl (by omega)
      (by
        intro j u hj
        rw [Nat.zero_add]
        rw [← htk, List.getElem?_take] at hj
        split at hj
        · simpa [World.cell?, hnew] using hj
        · simp at hj)
      (by
        intro j y u hy hu'
        exact l'.fr (hall.2 j y u hy hu'))
    exact this

end
end Go.EW
