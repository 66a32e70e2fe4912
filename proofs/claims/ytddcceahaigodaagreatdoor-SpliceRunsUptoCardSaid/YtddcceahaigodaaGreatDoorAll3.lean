import Derived.Test.YtddcceahaigodaaGreatDoorAll2
import Derived.Maps.AppendAt
namespace Go.EW
open Go
def dropO (H : Nat → Option EO) : Option Nat → Nat → Option EO
 | none => H
 | some o => upd H o none
def stoAt (H : Nat → Option EO) (p : EC) (cs : List EC) : Option (Nat × EO) :=
 match p with
 | .ptr o k => match H o with
  | some (.box ty cells) => if k + cs.length ≤ cells.length then some (o, .box ty (cells.take k ++ cs ++ cells.drop (k + cs.length))) else none
  | _ => none
 | .eptr o es i k => match H o with
  | some (.row ty es' xs) => if es' = es then (xs[i]?).bind fun x => (frzAll cs).bind fun fs => if k + fs.length ≤ es then some (o, .row ty es (xs.set i (x.take k ++ fs ++ x.drop (k + fs.length)))) else none else none
  | _ => none
 | _ => none
def baseF (es : Nat) : FV → Option (Option Nat × List (List FV))
 | .lit (.slice none 0 0) => some (none, [])
 | .slc es' xs => if es' = es then some (none, xs) else none
 | _ => none
def baseOf (H : Nat → Option EO) (ty : TypeId) (es : Nat) : EC → Option (Option Nat × List (List FV))
 | .fz x => baseF es x
 | .row o len => match H o with
  | some (.row ty' es' xs) => if ty' = ty ∧ es' = es ∧ len = xs.length then some (some o, xs) else if ty' = ty ∧ es' = es ∧ len ≤ xs.length then some (some o, xs.take len) else none
  | _ => none
 | _ => none
def slcE : EC → Bool
 | .fz (.slc _ _) => true
 | _ => false
def cpyAt (H : Nat → Option EO) (es : Nat) (d : EC) (ys : List (List FV)) : Option (Nat × EO × Nat) :=
 match d with
 | .bsl o k len => match H o with
  | some (.box ty cells) => if es = 1 ∧ k + len ≤ cells.length then some (o, .box ty (cells.take k ++ ((ys.take len).flatten.map EC.fz) ++ cells.drop (k + (ys.take len).flatten.length)), min ys.length len) else none
  | _ => none
 | .row o len => match H o with
  | some (.row ty es' xs) => if es = 1 ∧ es' = 1 ∧ 0 < xs.length ∧ len ≤ xs.length then some (o, .row ty 1 (xs.take 0 ++ ys.take len ++ xs.drop (0 + (ys.take len).length)), min ys.length len) else none
  | _ => none
 | .rsl o k len => match H o with
  | some (.row ty es' xs) => if es = 1 ∧ es' = 1 ∧ 0 < xs.length ∧ k + len ≤ xs.length then some (o, .row ty 1 (xs.take k ++ ys.take len ++ xs.drop (k + (ys.take len).length)), min ys.length len) else none
  | _ => none
 | _ => none
section
variable {P : Program} {o : Oper} {w0 : World} {m : Nat} {ρ0 : Base} {Φ0 : Nat → Prop} {H : Nat → Option EO} {X : Cx} {T : List EV} {a : Act} {id : Nat}
theorem Rel.setRow (r : Rel w0 m ρ0 Φ0 H X) {i : Nat} {x0 : EO} (hi : H i = some x0) {b : Nat} (hbi : hb (X.ρ i) = some b) (cur : Array Value) (x : EO)
  (hor : OR { X with w := X.w.setRow b cur } x (X.ρ i)) (hx : ∀ k, ft x (X.ρ i) k → hb (X.ρ i) = some k := by intro k h; exact h) :
  Rel w0 m ρ0 Φ0 (upd H i (some x)) { X with w := X.w.setRow b cur } ∧ Later X { X with w := X.w.setRow b cur } :=
 r.write (w' := X.w.setRow b cur) rfl rfl rfl (by simp) i x0 hi b hbi (fun k hk => setRow_other _ _ _ _ hk) x hor hx
theorem later_setRow (r : Rel w0 m ρ0 Φ0 H X) {i : Nat} {x0 : EO} (hi : H i = some x0) {b : Nat} (hbi : hb (X.ρ i) = some b) (cur : Array Value) : Later X { X with w := X.w.setRow b cur } :=
 ⟨fun _ h => h, fun _ _ => rfl, fun _ h => h, fun _ hk => setRow_other _ _ _ _ (fun e => r.dis i x0 b hi (ft_hb hbi) (e ▸ hk))⟩
theorem set_mid {α : Type} {es : Nat} {xs : List (List α)} (hl : ∀ x ∈ xs, x.length = es) {i : Nat} {x : List α} (hx : xs[i]? = some x) (k : Nat) (fs : List α) (hk : k + fs.length ≤ es) :
  (xs.set i (x.take k ++ fs ++ x.drop (k + fs.length))).flatten = xs.flatten.take (i * es + k) ++ fs ++ xs.flatten.drop (i * es + k + fs.length) := by
 have hi := lt_of_get hx
 have hxl := hl x (List.mgE hx)
 rw [flatten_set hl i hi]
 have hsplit : xs.flatten = xs.flatten.take (i * es) ++ (x ++ xs.flatten.drop (i * es + es)) := by
  have := flatten_set hl i hi x
  rw [List.append_assoc] at this
  rw [← this]
  congr 1
  rw [List.getElem?_eq_getElem hi] at hx
  rw [← Option.some.inj hx]
  simp
 have hA : (xs.flatten.take (i * es)).length = i * es := by
  rw [List.length_take, flatten_length hl]
  have := Nat.mul_le_mul_right es (show i ≤ xs.length by omega)
  omega
 generalize hAA : xs.flatten.take (i * es) = A at *
 generalize hBB : xs.flatten.drop (i * es + es) = B at *
 rw [hsplit]
 rw [List.take_append, List.drop_append, hA]
 rw [List.tkL (l := A) (by omega), List.drop_of_length_le (l := A) (by omega)]
 rw [show i * es + k - i * es = k by omega, show i * es + k + fs.length - i * es = k + fs.length by omega]
 rw [List.take_append_of_le_length (by omega), List.drop_append_of_le_length (by omega)]
 simp
theorem stoAt_sound (r : Rel w0 m ρ0 Φ0 H X) {p : EC} {v : Value} (hp : VR X p v) {cs : List EC} {vs : List Value} (hcs : All2 (VR X) cs vs) {i : Nat} {x : EO} (h : stoAt H p cs = some (i, x)) :
  ∃ b off w', v = .pointer (some ⟨b, off, none⟩) ∧ (storeCells ⟨b, off, none⟩ vs 0).run P X.w = .ok () w' ∧ Rel w0 m ρ0 Φ0 (upd H i (some x)) { X with w := w' } ∧ Later X { X with w := w' } := by
 have hone : ∀ u ∈ vs, u.oneCell' = true := by
  intro u hu
  obtain ⟨j, hj⟩ := List.getElem?_of_mem hu
  obtain ⟨c, _, hr⟩ := hcs.get' hj
  exact hr.oneCell
 unfold stoAt at h
 split at h
 ·rename_i o' k
  split at h
  ·rename_i ty cells hH
   split at h
   ·rename_i hle
    simp only [Option.some.injEq, Prod.mk.injEq] at h
    obtain ⟨rfl, rfl⟩ := h
    obtain ⟨hu, b, hρ, rfl⟩ := hp
    obtain ⟨b', c, hh, hheap, hall⟩ := (r.obj o' _ hH).2
    rw [hρ] at hh
    simp at hh
    subst hh
    have hfit : k + 0 + vs.length ≤ c.size := by rw [← hcs.1]; have := hall.1; simp at this; omega
    have hst := run_storeCells_at P b k ty vs 0 c X.w hheap hfit hone
    have hbi : hb (X.ρ o') = some b := by rw [hρ]; rfl
    have hl := later_setRow r hH hbi (c.toList.take (k + 0) ++ vs ++ c.toList.drop (k + 0 + vs.length)).toArray
    refine ⟨b, k, _, rfl, hst, r.setRow hH hbi _ _ ?_⟩
    refine ⟨b, _, hρ, setRow_heap _ _ _ _ _ _ hheap, ?_⟩
    simp only [Nat.add_zero]
    have := (((hall.take k).append hcs).append (hall.drop (k + cs.length))).mono (fun _ _ => hl.vr)
    rw [hcs.1] at this ⊢
    simpa using this
   ·simp at h
  ·simp at h
 ·rename_i o' es i' k
  split at h
  ·rename_i ty es' xs hH
   split at h
   ·rename_i he
    subst he
    replace h := bind_some' h; obtain ⟨y, hy, h⟩ := h
    replace h := bind_some' h; obtain ⟨fs, hfs, h⟩ := h
    split at h
    ·rename_i hk
     simp only [Option.some.injEq, Prod.mk.injEq] at h
     obtain ⟨rfl, rfl⟩ := h
     obtain ⟨hu, b, n, cap, hρ, rfl⟩ := hp
     have hor := (r.obj o' _ hH).2
     rw [hρ] at hor
     obtain ⟨h0, hl, flat, how, hall⟩ := hor
     have hcf := frzAll_spec hfs
     subst hcf
     have hfv := All2_fz hcs
     rcases how.2 with ⟨hn, _⟩ | ⟨g, cap', cur, he, _, hg, hnc, hcm, hcs', htake⟩
     ·simp at hn
     ·simp only [Value.slice.injEq, Option.some.injEq, Addr.mk.injEq] at he
      obtain ⟨⟨rfl, _⟩, rfl, rfl⟩ := he
      have hi' := lt_of_get hy
      have hm : (i' + 1) * es' ≤ xs.length * es' := Nat.mul_le_mul_right _ hi'
      rw [Nat.add_mul] at hm
      have hcap : xs.length * es' ≤ cap * es' := Nat.mul_le_mul_right _ hnc
      have hvl : vs.length = fs.length := by rw [← hfv.1]
      have hfit : i' * es' + k + 0 + vs.length ≤ cur.size := by rw [hcs', hvl]; omega
      have hst := run_storeCells_at P b (i' * es' + k) ty vs 0 cur X.w hg hfit hone
      have hbi : hb (X.ρ o') = some b := by rw [hρ]; rfl
      have hlat := later_setRow r hH hbi (cur.toList.take (i' * es' + k + 0) ++ vs ++ cur.toList.drop (i' * es' + k + 0 + vs.length)).toArray
      refine ⟨b, i' * es' + k, _, rfl, hst, r.setRow hH hbi _ _ ?_⟩
      have hyl := hl y (List.mgE hy)
      rw [hρ]
      refine ⟨h0, len_of_set hl i' _ (by simp; omega), flat.take (i' * es' + k) ++ vs ++ flat.drop (i' * es' + k + vs.length), ?_, ?_⟩
      ·have hfl : flat.length = xs.length * es' := how.1
       refine ⟨by simp; omega, .inr ⟨b, cap, _, by simp, Nat.zero_le _, setRow_heap _ _ _ _ _ _ hg, by simpa using hnc, hcm, ?_, ?_⟩⟩
       ·simp; omega
       ·simp only [Nat.add_zero, List.length_set]
        rw [← htake]
        apply List.ext_getElem?
        intro j
        simp only [List.getElem?_take, List.getElem?_append, List.getElem?_drop, List.length_append, List.length_take]
        have e1 : min (i' * es' + k) cur.toList.length = i' * es' + k := by simp; omega
        have e2 : min (i' * es' + k) (min (xs.length * es') cur.toList.length) = i' * es' + k := by simp; omega
        rw [e1, e2]
        by_cases h1 : j < xs.length * es'
        ·rw [if_pos h1]
         by_cases h2 : j < i' * es' + k
         ·simp [h2, show j < i' * es' + k + vs.length by omega, h1]
         ·by_cases h3 : j < i' * es' + k + vs.length
          ·simp [h2, h3]
          ·simp only [h3, if_false]
           rw [if_pos (by omega)]
        ·rw [if_neg h1]
         rw [if_neg (by omega), if_neg (by omega)]
      ·have key : All2 (FR X.Φ X.w) (xs.set i' (y.take k ++ fs ++ y.drop (k + fs.length))).flatten (flat.take (i' * es' + k) ++ vs ++ flat.drop (i' * es' + k + vs.length)) := by
        rw [set_mid hl hy k fs hk, hvl]
        exact ((hall.take _).append hfv).append (hall.drop _)
       exact key.mono (fun _ _ => hlat.fr)
    ·simp at h
   ·simp at h
  ·simp at h
 ·simp at h
theorem g_sto {t : TypeId} {n : Nat} {p x : Operand} (ho : o.op = .store t p x) (hn : sz P t = some n) (r : Rel w0 m ρ0 Φ0 H X) (ha : All2 (VV X) T a.tmps.toList) {pc : EC} (hp : asC (ev T (opd p)) = some pc) {cs : List EC} (hx : asCells (ev T (opd x)) = some cs) (hl : cs.length = n) {i : Nat} {ob : EO} (h : stoAt H pc cs = some (i, ob)) :
  ∃ w', (execOp a.eval o).run P X.w = .ok .skip w' ∧ Rel w0 m ρ0 Φ0 (upd H i (some ob)) { X with w := w' } ∧ Later X { X with w := w' } := by
 have hcs := VV_cells hx (VV_ev ha x)
 obtain ⟨b, off, w', e1, hst, r', l'⟩ := stoAt_sound (P := P) r (VV_c hp (VV_ev ha p)) hcs h
 refine ⟨w', ?_, r', l'⟩
 have hsz : (a.eval x).cells.size = n := by rw [← hl, hcs.1]; simp
 simp [execOp, ho, Instr.storeAt, e1, Instr.sureAddr, storeVar, run_sz hn, hsz, hst]
theorem Rel.grow (r : Rel w0 m ρ0 Φ0 H X) (old : Option Nat) (bo : Option Nat) (hold : bo = none ∨ ∃ o x, old = some o ∧ H o = some x ∧ hb (X.ρ o) = bo) {w' : World} (hg : X.w.grownBy w' bo) (hid : ¬ X.U id) (hm : m ≤ id)
  (h' : Value) (hat : hb h' = none ∨ hb h' = bo ∨ hb h' = some X.w.heap.size) (x' : EO) (hor : OR { U := fun o => X.U o ∨ o = id, ρ := upd X.ρ id h', Φ := X.Φ, w := w' } x' h') (hx' : ∀ k, ft x' h' k → hb h' = some k := by intro k h; exact h) :
  Rel w0 m ρ0 Φ0 (upd (dropO H old) id (some x')) { U := fun o => X.U o ∨ o = id, ρ := upd X.ρ id h', Φ := X.Φ, w := w' } ∧
   Later X { U := fun o => X.U o ∨ o = id, ρ := upd X.ρ id h', Φ := X.Φ, w := w' } := by
 have ne : ∀ o, X.U o → o ≠ id := fun o hu e => hid (e ▸ hu)
 have nbo : ∀ b, X.Φ b → some b ≠ bo := by
  intro b hb' e
  rcases hold with h | ⟨o, x, _, hx, hh⟩
  ·rw [h] at e; simp at e
  ·exact r.dis o x b hx (ft_hb (by rw [hh, ← e])) hb'
 have hbl : ∀ b, b < X.w.heap.size → some b ≠ bo → w'.heap[b]? = X.w.heap[b]? := hg.block
 have hl : Later X { U := fun o => X.U o ∨ o = id, ρ := upd X.ρ id h', Φ := X.Φ, w := w' } :=
  ⟨fun _ h => .inl h, fun o hu => upd_ne _ _ _ (ne o hu), fun _ h => h, fun b hb' => hbl b (r.fro b hb') (nbo b hb')⟩
 have inH : ∀ o y, upd (dropO H old) id (some x') o = some y → (o = id ∧ y = x') ∨ (o ≠ id ∧ H o = some y ∧ old ≠ some o) := by
  intro o y hy
  by_cases e : o = id
  ·subst e; rw [upd_same] at hy; exact .inl ⟨rfl, (Option.some.inj hy).symm⟩
  ·rw [upd_ne _ _ _ e] at hy
   refine .inr ⟨e, ?_⟩
   cases old with
   | none => exact ⟨hy, by simp⟩
   | some oo =>
    by_cases e2 : o = oo
    ·subst e2; simp [dropO, upd] at hy
    ·simp only [dropO, upd_ne _ _ _ e2] at hy
     exact ⟨hy, by simp; exact fun h => e2 h.symm⟩
 have live_ne : ∀ o y b, H o = some y → old ≠ some o → ft y (X.ρ o) b → some b ≠ bo := by
  intro o y b hy hne hbb e
  rcases hold with h | ⟨oo, x, ho, hx, hh⟩
  ·rw [h] at e; simp at e
  ·have := r.inj o oo y x b hy hx hbb (ft_hb (by rw [hh, ← e]))
   exact hne (by rw [ho, this])
 have own_bo : ∀ b, bo = some b → w0.heap.size ≤ b ∨ ρ0.F b := by
  intro b e
  rcases hold with h | ⟨oo, x, ho, hx, hh⟩
  ·rw [h] at e; simp at e
  ·exact r.own oo x b hx (ft_hb (by rw [hh, e]))
 have hgs := hg.size
 have rs := r.size
 have keepOR : ∀ o y, H o = some y → old ≠ some o → OR { U := fun o => X.U o ∨ o = id, ρ := upd X.ρ id h', Φ := X.Φ, w := w' } y (X.ρ o) := fun o y hy hne =>
  ((r.obj o y hy).2).later hl fun b hbb => hbl b (((r.obj o y hy).2).lt hbb) (live_ne o y b hy hne hbb)
 refine ⟨⟨hg.os.trans r.os, hg.tape.trans r.tape, hg.output.trans r.output, Nat.le_trans r.size hg.size, ?_, ?_, ?_, ?_, ?_, ?_, ?_, r.phi, r.glob.mono hl.Φ hl.w⟩, hl⟩
 ·intro b hb' hn
  rw [← r.block b hb' hn]
  refine hbl b (by omega) ?_
  intro e
  rcases own_bo b e.symm with h | h
  ·omega
  ·exact hn h
 ·intro o ho'
  show upd X.ρ id h' o = ρ0.ρ o
  rw [upd_ne _ _ _ (by omega)]
  exact r.pin o ho'
 ·intro o y hy
  rcases inH o y hy with ⟨rfl, rfl⟩ | ⟨e, hy', hne⟩
  ·exact ⟨.inr rfl, by simpa [upd_same] using hor⟩
  ·refine ⟨.inl (r.obj o y hy').1, ?_⟩
   have : upd X.ρ id h' o = X.ρ o := upd_ne _ _ _ e
   simp only [this]
   exact keepOR o y hy' hne
 ·have key : ∀ o y b, H o = some y → old ≠ some o → ft y (X.ρ o) b → hb h' ≠ some b := by
   intro o y b hy hne hbb e
   rcases hat with h | h | h
   ·rw [h] at e; simp at e
   ·exact live_ne o y b hy hne hbb (by rw [← h, e])
   ·have := ((r.obj o y hy).2).lt hbb
    rw [h] at e
    have := Option.some.inj e
    omega
  intro o o' y y' b hy hy' e1 e2
  rcases inH o y hy with ⟨rfl, rfl⟩ | ⟨ne1, h1, q1⟩
  ·rcases inH o' y' hy' with ⟨rfl, rfl⟩ | ⟨ne2, h2, q2⟩
   ·rfl
   ·exfalso
    simp only [upd_same, upd_ne _ _ _ ne2] at e1 e2
    exact key o' y' b h2 q2 e2 (hx' b e1)
  ·rcases inH o' y' hy' with ⟨rfl, rfl⟩ | ⟨ne2, h2, q2⟩
   ·exfalso
    simp only [upd_same, upd_ne _ _ _ ne1] at e1 e2
    exact key o y b h1 q1 e1 (hx' b e2)
   ·simp only [upd_ne _ _ _ ne1, upd_ne _ _ _ ne2] at e1 e2
    exact r.inj o o' y y' b h1 h2 e1 e2
 ·intro o y b hy e1
  rcases inH o y hy with ⟨rfl, rfl⟩ | ⟨ne1, h1, q1⟩
  ·simp only [upd_same] at e1
   replace e1 := hx' b e1
   rcases hat with h | h | h
   ·rw [h] at e1; simp at e1
   ·exact own_bo b (by rw [← h, e1])
   ·rw [h] at e1
    have := Option.some.inj e1
    exact .inl (by omega)
  ·simp only [upd_ne _ _ _ ne1] at e1
   exact r.own o y b h1 e1
 ·intro o y b hy e1 hΦ
  rcases inH o y hy with ⟨rfl, rfl⟩ | ⟨ne1, h1, q1⟩
  ·simp only [upd_same] at e1
   replace e1 := hx' b e1
   rcases hat with h | h | h
   ·rw [h] at e1; simp at e1
   ·exact nbo b hΦ (by rw [← h, e1])
   ·rw [h] at e1
    have := Option.some.inj e1
    have := r.fro b hΦ
    omega
  ·simp only [upd_ne _ _ _ ne1] at e1
   exact r.dis o y b h1 e1 hΦ
 ·intro b hΦ
  have := r.fro b hΦ
  have := hg.size
  show b < w'.heap.size
  omega
theorem own_hb (v : Value) {a' : Option Addr} {n c : Nat} (h : v = .slice a' n c) : v.ownBlock = hb v := by
 subst h; cases a' <;> rfl
theorem run_append_none {w : World} {t e : TypeId} {ty : TypeId} {i : TypeInfo} (ht : P.underlying t = some (.slice e)) (hi : P.info? e = some i) (base : Option Addr) (n cap c : Nat) (h : n ≤ cap) :
  (Builtin.append_ #[t, t] ty #[.slice base n cap, .slice none 0 c]).run P w = .ok (.slice base n cap) w := by
 cases base <;> simp [Builtin.append_, run_underlying ht, sizeOf, typeInfo, hi, Builtin.lenOf, h, Builtin.firstCells, storeCells]
theorem g_app_slc {t e : TypeId} {i : TypeInfo} {z : List Value} {s x : Operand} {args : Array Operand} {ts : Array TypeId} (ho : o.op = .call { callee := .builtin .append, args := args, argTypes := ts }) (hargs : args.toList = [s, x]) (hts : ts.toList = [t, t]) (ht : P.underlying t = some (.slice e)) (hi : P.info? e = some i) (hz : zer P e = some z) (hzl : z.length = i.size) (h0 : 0 < i.size)
  (r : Rel w0 m ρ0 Φ0 H X) (ha : All2 (VV X) T a.tmps.toList) (hid : ¬ X.U id) (hm : m ≤ id)
  {sc : EC} (hs : asC (ev T (opd s)) = some sc) {old : Option Nat} {xs : List (List FV)} (hb1 : baseOf H e i.size sc = some (old, xs))
  {xc : EC} (hx : asC (ev T (opd x)) = some xc) {ys : List (List FV)} (hy : elems2 H i.size xc = some ys)
  (hsl : slcE sc = true) (hne : ys ≠ [])
  (h63 : xs.length + ys.length ≤ 9223372036854775807) (hby : (xs.length + ys.length) * i.bytes ≤ 140737488355328) :
  ∃ val w', (execOp a.eval o).run P X.w = .ok (.value val) w' ∧
   Rel w0 m ρ0 Φ0 (upd (dropO H old) id (some (.row e i.size (xs ++ ys)))) { U := fun o => X.U o ∨ o = id, ρ := upd X.ρ id val, Φ := X.Φ, w := w' } ∧
   Later X { U := fun o => X.U o ∨ o = id, ρ := upd X.ρ id val, Φ := X.Φ, w := w' } ∧
   VV { U := fun o => X.U o ∨ o = id, ρ := upd X.ρ id val, Φ := X.Φ, w := w' } (.v (.c (.row id (xs.length + ys.length)))) val := by
 obtain rfl : args = #[s, x] := by cases args; simp_all
 obtain rfl : ts = #[t, t] := by cases ts; simp_all
 have hsv := VV_c hs (VV_ev ha s)
 have hxv := VV_c hx (VV_ev ha x)
 obtain ⟨hyl, ad, cap, vs, ex, hcap, hvs, hcell⟩ := elems2_spec r hxv hy
 obtain ⟨i', zv, hi', hzi, hzc, hone⟩ := zer_some hz
 obtain rfl : i' = i := Option.some.inj (hi'.symm.trans hi)
 have hzs : zv.cells.size = i'.size := by rw [← hzl, ← hzc]; simp
 have hvl : vs.length = ys.length * i'.size := by rw [← hvs.1, flatten_length hyl]
 have hypos : 0 < ys.length := List.length_pos_iff.2 hne
 obtain ⟨b1, off1, hc1, hcc1⟩ := hcell hne
 subst hc1
 have hnews : ∀ (j : Nat) (u : Value), vs[j]? = some u → X.w.cell? ((⟨b1, off1, none⟩ : Addr).add j) = some u := by
  intro j u hu
  rw [Addr.add_lit]
  exact hcc1 j u hu
 obtain ⟨rfl, es', hsc, rfl⟩ : old = none ∧ ∃ es', sc = .fz (.slc es' xs) ∧ es' = i'.size := by
  unfold slcE at hsl
  split at hsl
  ·rename_i es' xs'
   simp only [baseOf, baseF] at hb1
   split at hb1
   ·rename_i he
    simp only [Option.some.injEq, Prod.mk.injEq] at hb1
    obtain ⟨rfl, rfl⟩ := hb1
    exact ⟨rfl, es', rfl, he⟩
   ·simp at hb1
  ·simp at hsl
 subst hsc
 have hsv' : FR X.Φ X.w (.slc i'.size xs) (a.eval s) := hsv
 obtain ⟨as, es1, hsl1⟩ : ∃ as, a.eval s = .slice as xs.length xs.length ∧ FR X.Φ X.w (.sl i'.size xs) (.slice as xs.length xs.length) := by
  generalize a.eval s = sv at hsv'
  cases hsv' with
  | slc _ _ as h => exact ⟨as, rfl, h⟩
 obtain ⟨olds, hall, hxl, hobs⟩ : ∃ olds : List Value, All2 (FR X.Φ X.w) xs.flatten olds ∧ (∀ x ∈ xs, x.length = i'.size) ∧ ((xs = [] ∧ olds = [] ∧ as = none) ∨ ∃ ba : Addr, as = some ba ∧ olds.length = xs.length * i'.size ∧ ∀ (j : Nat) (u : Value), olds[j]? = some u → X.w.cell? (ba.add j) = some u) := by
  generalize hn : xs.length = n at hsl1
  cases hsl1 with
  | emp =>
   refine ⟨[], All2.nil, by simp, ?_⟩
   cases as with
   | none => exact .inl ⟨rfl, rfl, rfl⟩
   | some ba => exact .inr ⟨ba, rfl, by simp, by simp⟩
  | sl _ _ b off _ us hΦ h0' hl hu hc hcell' hfr =>
   refine ⟨us, ⟨by rw [flatten_length hl]; exact hu.symm, hfr⟩, hl, .inr ⟨_, rfl, hu, ?_⟩⟩
   intro j u hj
   rw [Addr.add_lit]
   exact hcell' j u hj
 have run : ∀ v' w', (Builtin.append_ #[t, t] o.type #[a.eval s, a.eval x]).run P X.w = .ok v' w' → (execOp a.eval o).run P X.w = .ok (.value v') w' := by
  intro v' w' h
  simp [execOp, ho, resolve, invoke, builtin, h]
 have hlo : olds.length = xs.length * i'.size := by rw [← hall.1, flatten_length hxl]
 have hlen : (olds ++ vs).length = (xs.length + ys.length) * i'.size := by rw [List.length_append, hlo, hvl, Nat.add_mul]
 have hge := grownCap_ge X.w (xs.length + ys.length) xs.length e
 have hcm : grownCap X.w (xs.length + ys.length) xs.length e ≤ maxLen := grownCap_le_maxLen X.w (xs.length + ys.length) xs.length e (by unfold maxLen; omega)
 have hrun : (Builtin.append_ #[t, t] o.type #[a.eval s, a.eval x]).run P X.w = .ok (.slice (some ⟨X.w.heap.size, 0, none⟩) (xs.length + ys.length) (grownCap X.w (xs.length + ys.length) xs.length e))
   (X.w.drew.alloc (.cells (olds.toArray ++ vs.toArray ++ Builtin.zeroCells zv.cells (grownCap X.w (xs.length + ys.length) xs.length e - (xs.length + ys.length))) e)) := by
  rw [es1, ex]
  rcases hobs with ⟨rfl, rfl, rfl⟩ | ⟨ba, rfl, hlo', hcl⟩
  ·have := run_append_nil (P := P) X.w t o.type e i' zv ht hi hzi ⟨b1, off1, none⟩ ys.length cap vs hvl hnews hypos (by simp at h63; omega) (by simp at hby; omega)
   simpa using this
  ·exact run_append_grow (P := P) X.w t o.type e i' zv ht hi hzi ba xs.length xs.length olds hlo' hcl ⟨b1, off1, none⟩ ys.length cap vs hvl hnews (by omega) (by omega) (growslice_fits (by omega) hby)
 generalize hcg : grownCap X.w (xs.length + ys.length) xs.length e = cg at *
 have hgr : X.w.grownBy (X.w.drew.alloc (.cells (olds.toArray ++ vs.toArray ++ Builtin.zeroCells zv.cells (cg - (xs.length + ys.length))) e)) none :=
  ⟨rfl, rfl, rfl, by simp, fun k hk _ => heap_alloc_old X.w.drew _ k hk⟩
 have hown : (X.w.drew.alloc (.cells (olds.toArray ++ vs.toArray ++ Builtin.zeroCells zv.cells (cg - (xs.length + ys.length))) e)).ownsRow 0 e i'.size (.slice (some ⟨X.w.heap.size, 0, none⟩) (xs.length + ys.length) cg) (xs.length + ys.length) (olds ++ vs) := by
  refine ⟨hlen, .inr ⟨X.w.heap.size, _, _, rfl, Nat.zero_le _, heap_alloc_new X.w.drew _, hge, hcm, ?_, ?_⟩⟩
  ·simp only [Array.size_append, List.size_toArray, size_zeroCells, hzs, hlo, hvl, ← Nat.add_mul]
   congr 1
   omega
  ·simp only [Array.toList_append, List.append_assoc]
   rw [← List.append_assoc, ← hlen]
   exact List.take_left
 generalize hw' : X.w.drew.alloc (.cells (olds.toArray ++ vs.toArray ++ Builtin.zeroCells zv.cells (cg - (xs.length + ys.length))) e) = w' at *
 have hl0 : Later X { U := fun o => X.U o ∨ o = id, ρ := upd X.ρ id (.slice (some ⟨X.w.heap.size, 0, none⟩) (xs.length + ys.length) cg), Φ := X.Φ, w := w' } :=
  ⟨fun _ h => .inl h, fun o hu => upd_ne _ _ _ (fun e => hid (e ▸ hu)), fun _ h => h, fun b hb' => hgr.block b (r.fro b hb') (by simp)⟩
 obtain ⟨r', l'⟩ := r.grow none none (.inl rfl) hgr hid hm (.slice (some ⟨X.w.heap.size, 0, none⟩) (xs.length + ys.length) cg) (.inr (.inr rfl)) (.row e i'.size (xs ++ ys))
  ⟨h0, by intro x' hx'; rcases List.mem_append.1 hx' with h | h; exact hxl x' h; exact hyl x' h, olds ++ vs, by rw [List.length_append]; exact hown, by
   rw [List.flatten_append]
   exact (hall.append hvs).mono (fun _ _ => hl0.fr)⟩
 refine ⟨_, w', run _ w' hrun, r', l', .inr rfl, some ⟨X.w.heap.size, 0, none⟩, xs.length + ys.length, cg, ?_, Nat.le_refl _, hge, rfl⟩
 simp [upd_same]
theorem g_app {t e : TypeId} {i : TypeInfo} {z : List Value} {s x : Operand} {args : Array Operand} {ts : Array TypeId} (ho : o.op = .call { callee := .builtin .append, args := args, argTypes := ts }) (hargs : args.toList = [s, x]) (hts : ts.toList = [t, t]) (ht : P.underlying t = some (.slice e)) (hi : P.info? e = some i) (hz : zer P e = some z) (hzl : z.length = i.size) (h0 : 0 < i.size)
  (r : Rel w0 m ρ0 Φ0 H X) (ha : All2 (VV X) T a.tmps.toList) (hid : ¬ X.U id) (hm : m ≤ id)
  {sc : EC} (hs : asC (ev T (opd s)) = some sc) {old : Option Nat} {xs : List (List FV)} (hb1 : baseOf H e i.size sc = some (old, xs))
  {xc : EC} (hx : asC (ev T (opd x)) = some xc) {ys : List (List FV)} (hy : elems2 H i.size xc = some ys)
  (hne : slcE sc = true → ys ≠ [])
  (h63 : xs.length + ys.length ≤ 9223372036854775807) (hby : (xs.length + ys.length) * i.bytes ≤ 140737488355328) :
  ∃ val w', (execOp a.eval o).run P X.w = .ok (.value val) w' ∧
   Rel w0 m ρ0 Φ0 (upd (dropO H old) id (some (.row e i.size (xs ++ ys)))) { U := fun o => X.U o ∨ o = id, ρ := upd X.ρ id val, Φ := X.Φ, w := w' } ∧
   Later X { U := fun o => X.U o ∨ o = id, ρ := upd X.ρ id val, Φ := X.Φ, w := w' } ∧
   VV { U := fun o => X.U o ∨ o = id, ρ := upd X.ρ id val, Φ := X.Φ, w := w' } (.v (.c (.row id (xs.length + ys.length)))) val := by
 obtain rfl : args = #[s, x] := by cases args; simp_all
 obtain rfl : ts = #[t, t] := by cases ts; simp_all
 have hsv := VV_c hs (VV_ev ha s)
 have hxv := VV_c hx (VV_ev ha x)
 by_cases hsl : slcE sc = true
 ·exact g_app_slc ho hargs hts ht hi hz hzl h0 r ha hid hm hs hb1 hx hy hsl (hne hsl) h63 hby
 obtain ⟨hyl, ad, cap, vs, ex, hcap, hvs, hcell⟩ := elems2_spec r hxv hy
 obtain ⟨i', zv, hi', hzi, hzc, hone⟩ := zer_some hz
 obtain rfl : i' = i := Option.some.inj (hi'.symm.trans hi)
 have hzs : zv.cells.size = i'.size := by rw [← hzl, ← hzc]; simp
 have hvl : vs.length = ys.length * i'.size := by rw [← hvs.1, flatten_length hyl]
 have h1v : ∀ u ∈ vs, u.oneCell' = true := by
  intro u hu
  obtain ⟨j, hj⟩ := List.getElem?_of_mem hu
  obtain ⟨c, _, hr⟩ := hvs.get' hj
  exact hr.oneCell
 -- the slice that is appended to
 obtain ⟨flat, how, hall, hxl, hold⟩ : ∃ flat, X.w.ownsRow 0 e i'.size (a.eval s) xs.length flat ∧ All2 (FR X.Φ X.w) xs.flatten flat ∧ (∀ x ∈ xs, x.length = i'.size) ∧ ((a.eval s).ownBlock = none ∨ ∃ o x, old = some o ∧ H o = some x ∧ hb (X.ρ o) = (a.eval s).ownBlock) := by
  unfold baseOf at hb1
  split at hb1
  ·unfold baseF at hb1
   split at hb1
   ·simp only [Option.some.injEq, Prod.mk.injEq] at hb1
    obtain ⟨rfl, rfl⟩ := hb1
    have hsv' : FR X.Φ X.w (.lit (.slice none 0 0)) (a.eval s) := hsv
    generalize a.eval s = sv at hsv'
    cases hsv'
    exact ⟨[], World.ownsRow_nil _ _ _ _, by simpa using All2.nil, by simp, .inl rfl⟩
   ·simp [slcE] at hsl
   ·simp at hb1
  ·rename_i o' len
   split at hb1
   ·rename_i ty' es' ys' hH
    split at hb1
    ·rename_i hh
     obtain ⟨rfl, rfl, rfl⟩ := hh
     simp only [Option.some.injEq, Prod.mk.injEq] at hb1
     obtain ⟨rfl, rfl⟩ := hb1
     obtain ⟨hu, ad', n, cap', hρ, q1, q2, q3⟩ := hsv
     have hor := (r.obj o' _ hH).2
     obtain ⟨_, hl, flat, how, hall⟩ := hor
     have hn : n = ys'.length := by
      rw [hρ] at how
      rcases how.2 with ⟨hn, hz⟩ | ⟨g, cap', cur, he, _⟩
      ·simp only [Value.slice.injEq] at hn; omega
      ·simp only [Value.slice.injEq] at he; omega
     subst hn
     rw [q3, ← hρ]
     exact ⟨flat, how, hall, hl, .inr ⟨o', _, rfl, hH, (own_hb _ hρ).symm⟩⟩
    ·split at hb1
     ·rename_i hne hh
      obtain ⟨rfl, rfl, hle⟩ := hh
      simp only [Option.some.injEq, Prod.mk.injEq] at hb1
      obtain ⟨rfl, rfl⟩ := hb1
      have hlt : len < ys'.length := by
       rcases Nat.lt_or_ge len ys'.length with h | h
       ·exact h
       ·exact absurd ⟨rfl, rfl, by omega⟩ hne
      obtain ⟨hu, ad', n, cap', hρ, q1, q2, q3⟩ := hsv
      have hor := (r.obj o' _ hH).2
      obtain ⟨_, hl, flat, how, hall⟩ := hor
      rw [hρ] at how
      have htl : (ys'.take len).length = len := by rw [List.length_take]; omega
      rcases how.2 with ⟨hn, hz⟩ | ⟨g, cap'', cur, he, hb0, hg, hnc, hcm, hcs, htk⟩
      ·omega
      ·simp only [Value.slice.injEq] at he
       obtain ⟨rfl, rfl, rfl⟩ := he
       have hft : (ys'.take len).flatten = ys'.flatten.take (len * i'.size) := flatten_take hl len
       have hmul : len * i'.size ≤ ys'.length * i'.size := Nat.mul_le_mul_right _ (by omega)
       refine ⟨flat.take (len * i'.size), ⟨?_, .inr ⟨g, cap', cur, ?_, hb0, hg, ?_, hcm, hcs, ?_⟩⟩, ?_, ?_, .inr ⟨o', _, rfl, hH, ?_⟩⟩
       ·rw [List.length_take, how.1, htl]; omega
       ·rw [q3, htl]
       ·rw [htl]; omega
       ·rw [htl, ← htk, List.take_take]
        congr 1
        omega
       ·rw [hft]; exact hall.take _
       ·intro x hx; exact hl x (List.mem_of_mem_take hx)
       ·rw [hρ, q3]; rfl
     ·simp at hb1
   ·simp at hb1
  ·simp at hb1
 have run : ∀ r', (Builtin.append_ #[t, t] o.type #[a.eval s, a.eval x]).run P X.w = r' → ∀ v' w', r' = .ok v' w' → (execOp a.eval o).run P X.w = .ok (.value v') w' := by
  intro r' h v' w' e'
  simp [execOp, ho, resolve, invoke, builtin, h, e']
 -- what comes of it
 have fin : ∀ v' w', (Builtin.append_ #[t, t] o.type #[a.eval s, a.eval x]).run P X.w = .ok v' w' → w'.ownsRow 0 e i'.size v' (xs.length + ys.length) (flat ++ vs) → X.w.grownBy w' (a.eval s).ownBlock → (v'.ownBlock = none ∨ v'.ownBlock = (a.eval s).ownBlock ∨ v'.ownBlock = some X.w.heap.size) →
   ∃ val w', (execOp a.eval o).run P X.w = .ok (.value val) w' ∧
   Rel w0 m ρ0 Φ0 (upd (dropO H old) id (some (.row e i'.size (xs ++ ys)))) { U := fun o => X.U o ∨ o = id, ρ := upd X.ρ id val, Φ := X.Φ, w := w' } ∧
   Later X { U := fun o => X.U o ∨ o = id, ρ := upd X.ρ id val, Φ := X.Φ, w := w' } ∧
   VV { U := fun o => X.U o ∨ o = id, ρ := upd X.ρ id val, Φ := X.Φ, w := w' } (.v (.c (.row id (xs.length + ys.length)))) val := by
  intro v' w' hrun hown hgr hat
  obtain ⟨a', n', c', hv'⟩ : ∃ a' c', v' = .slice a' (xs.length + ys.length) c' ∧ xs.length + ys.length ≤ c' := by
   rcases hown.2 with ⟨h1, h2⟩ | ⟨g, cap', cur, h1, _, _, h2, _⟩
   ·exact ⟨none, 0, by rw [h1, h2], by omega⟩
   ·exact ⟨_, cap', h1, h2⟩
  have hh := own_hb v' c'
  have nbo : ∀ b, X.Φ b → some b ≠ (a.eval s).ownBlock := by
   intro b hb' e'
   rcases hold with h | ⟨o, x, _, hx, hh⟩
   ·rw [h] at e'; simp at e'
   ·exact r.dis o x b hx (ft_hb (by rw [hh, ← e'])) hb'
  have hl0 : Later X { U := fun o => X.U o ∨ o = id, ρ := upd X.ρ id v', Φ := X.Φ, w := w' } :=
   ⟨fun _ h => .inl h, fun o hu => upd_ne _ _ _ (fun e => hid (e ▸ hu)), fun _ h => h, fun b hb' => hgr.block b (r.fro b hb') (nbo b hb')⟩
  obtain ⟨r', l'⟩ := r.grow old (a.eval s).ownBlock hold hgr hid hm v' (by rw [← hh]; exact hat) (.row e i'.size (xs ++ ys))
   ⟨h0, by intro x' hx'; rcases List.mem_append.1 hx' with h | h; exact hxl x' h; exact hyl x' h, flat ++ vs, by rw [List.length_append]; exact hown, by
    rw [List.flatten_append]
    exact (hall.append hvs).mono (fun _ _ => hl0.fr)⟩
  refine ⟨v', w', run _ hrun v' w' rfl, r', l', .inr rfl, a', xs.length + ys.length, n', ?_, Nat.le_refl _, hv', c'⟩
  simp [upd_same, c']
 cases ad with
 | none =>
  have hy0 : ys = [] := by
   apply Classical.byContradiction
   intro hne
   obtain ⟨b, off, hc, _⟩ := hcell hne
   simp at hc
  subst hy0
  have hv0 : vs = [] := List.eq_nil_of_length_eq_zero (by simpa using hvl)
  subst hv0
  obtain ⟨base, c, hsl, hle⟩ : ∃ base c, a.eval s = .slice base xs.length c ∧ xs.length ≤ c := by
   rcases how.2 with ⟨h1, h2⟩ | ⟨g, cap', cur, h1, _, _, h2, _⟩
   ·exact ⟨none, 0, by rw [h1, h2], by omega⟩
   ·exact ⟨_, cap', h1, h2⟩
  refine fin (a.eval s) X.w ?_ (by simpa using how) ⟨rfl, rfl, rfl, Nat.le_refl _, fun _ _ _ => rfl⟩ (.inr (.inl rfl))
  rw [hsl, ex]
  exact run_append_none ht hi base _ _ _ hle
 | some ad =>
  have hnews : ∀ (j : Nat) (u : Value), vs[j]? = some u → X.w.cell? (ad.add j) = some u := by
   intro j u hu
   have hne : ys ≠ [] := by
    rintro rfl
    have : vs = [] := List.eq_nil_of_length_eq_zero (by simpa using hvl)
    subst this
    simp at hu
   obtain ⟨b, off, hc, hcc⟩ := hcell hne
   obtain rfl := Option.some.inj hc
   rw [Addr.add_lit]
   exact hcc j u hu
  obtain ⟨v', w', hrun, hown, hgr, _, hat⟩ := run_append_own_at (P := P) X.w 0 t o.type e i' zv i'.size i'.bytes ht hi hzi rfl rfl hzs h0 (a.eval s) xs.length flat how ad ys.length cap vs hvl hnews h1v (by unfold maxLen; omega) hby (Nat.zero_le _)
  rw [← ex] at hrun
  exact fin v' w' hrun hown hgr (.inr hat)
theorem cpyRow_sound (r : Rel w0 m ρ0 Φ0 H X) {o' : Nat} {ty : TypeId} {xs : List (List FV)} (hH : H o' = some (.row ty 1 xs)) (hne : xs ≠ []) {k : Nat} {fs : List (List FV)} {vs : List Value} (hfs : ∀ x ∈ fs, x.length = 1) (hfv : All2 (FR X.Φ X.w) fs.flatten vs) (hone : ∀ u ∈ vs, u.oneCell' = true) (hk : k + fs.length ≤ xs.length) :
  ∃ b n cap w', X.ρ o' = .slice (some ⟨b, 0, none⟩) n cap ∧ (storeCells ⟨b, k, none⟩ vs 0).run P X.w = .ok () w' ∧ Rel w0 m ρ0 Φ0 (upd H o' (some (.row ty 1 (xs.take k ++ fs ++ xs.drop (k + fs.length))))) { X with w := w' } ∧ Later X { X with w := w' } := by
 have hor := (r.obj o' _ hH).2
 obtain ⟨h0, hl, flat, how, hall⟩ := hor
 have hxp : 0 < xs.length := List.length_pos_iff.2 hne
 have hvf : vs.length = fs.length := by rw [← hfv.1, flatten_length hfs, Nat.mul_one]
 have hfl : flat.length = xs.length := by rw [how.1, Nat.mul_one]
 rcases how.2 with ⟨_, hx⟩ | ⟨b, cap, cur, hρ, _, hg, hnc, hcm, hcs', htake⟩
 ·omega
 ·have hfit : k + 0 + vs.length ≤ cur.size := by rw [hcs', hvf]; omega
  have hst := run_storeCells_at P b k ty vs 0 cur X.w hg hfit hone
  have hbi : hb (X.ρ o') = some b := by rw [hρ]; rfl
  have hlat := later_setRow r hH hbi (cur.toList.take (k + 0) ++ vs ++ cur.toList.drop (k + 0 + vs.length)).toArray
  refine ⟨b, xs.length, cap, _, hρ, hst, r.setRow hH hbi _ _ ?_⟩
  have hnl : (xs.take k ++ fs ++ xs.drop (k + fs.length)).length = xs.length := by simp; omega
  refine ⟨h0, ?_, flat.take k ++ vs ++ flat.drop (k + vs.length), ?_, ?_⟩
  ·intro x hx
   rcases List.mem_append.1 hx with hx | hx
   ·rcases List.mem_append.1 hx with hx | hx
    ·exact hl x (List.mem_of_mem_take hx)
    ·exact hfs x hx
   ·exact hl x (List.mem_of_mem_drop hx)
  ·rw [hnl]
   refine ⟨by simp; omega, .inr ⟨b, cap, _, hρ, Nat.zero_le _, setRow_heap _ _ _ _ _ _ hg, hnc, hcm, ?_, ?_⟩⟩
   ·simp; omega
   ·simp only [Nat.add_zero]
    rw [← htake]
    apply List.ext_getElem?
    intro j
    simp only [List.getElem?_take, List.getElem?_append, List.getElem?_drop, List.length_append, List.length_take]
    have e1 : min k cur.toList.length = k := by simp; omega
    have e2 : min k (min (xs.length * 1) cur.toList.length) = k := by simp; omega
    rw [e1, e2]
    by_cases h1 : j < xs.length * 1
    ·rw [if_pos h1]
     by_cases h2 : j < k
     ·have h1' : j < xs.length := by omega
      simp [h2, show j < k + vs.length by omega, h1']
     ·by_cases h3 : j < k + vs.length
      ·simp [h2, h3]
      ·simp only [h3, if_false]
       rw [if_pos (by omega)]
    ·rw [if_neg h1]
     rw [if_neg (by omega), if_neg (by omega)]
  ·have key : All2 (FR X.Φ X.w) (xs.take k ++ fs ++ xs.drop (k + fs.length)).flatten (flat.take k ++ vs ++ flat.drop (k + vs.length)) := by
    rw [List.flatten_append, List.flatten_append, flatten_take hl, flatten_drop hl, hvf, Nat.mul_one, Nat.mul_one]
    exact ((hall.take _).append hfv).append (hall.drop _)
   exact key.mono (fun _ _ => hlat.fr)
theorem g_cpy {t e : TypeId} {es : Nat} {d s : Operand} {args : Array Operand} {ts : Array TypeId} (ho : o.op = .call { callee := .builtin .copy, args := args, argTypes := ts }) (hargs : args.toList = [d, s]) (hts : ts.toList.head? = some t) (ht : P.underlying t = some (.slice e)) (hes : sz P e = some es)
  (r : Rel w0 m ρ0 Φ0 H X) (ha : All2 (VV X) T a.tmps.toList)
  {dc : EC} (hd : asC (ev T (opd d)) = some dc) {xc : EC} (hx : asC (ev T (opd s)) = some xc) {ys : List (List FV)} (hy : elems2 H es xc = some ys) {i n : Nat} {ob : EO} (h : cpyAt H es dc ys = some (i, ob, n)) :
  ∃ w', (execOp a.eval o).run P X.w = .ok (.value (.int .i64 n)) w' ∧ Rel w0 m ρ0 Φ0 (upd H i (some ob)) { X with w := w' } ∧ Later X { X with w := w' } := by
 obtain rfl : args = #[d, s] := by cases args; simp_all
 have hts' : ts[0]? = some t := by
  rw [List.head?_eq_getElem?] at hts
  simpa using hts
 have hdv := VV_c hd (VV_ev ha d)
 have hxv := VV_c hx (VV_ev ha s)
 obtain ⟨hyl, ad, cap, vs, ex, hcap, hvs, hcell⟩ := elems2_spec r hxv hy
 have hvl : vs.length = ys.length * es := by rw [← hvs.1, flatten_length hyl]
 have hfirst : ∀ mm, es = 1 → mm ≤ ys.length → (Builtin.firstCells 1 mm (.slice ad ys.length cap)).run P X.w = .ok (vs.take mm).toArray X.w := by
  rintro mm rfl hmm
  cases ad with
  | none =>
   have hy0 : ys = [] := by
    apply Classical.byContradiction
    intro hne
    obtain ⟨b, off, hc, _⟩ := hcell hne
    simp at hc
   subst hy0
   obtain rfl : mm = 0 := by simpa using hmm
   simp [Builtin.firstCells]
  | some ad =>
   refine run_firstCells_some (P := P) X.w 1 _ ad ys.length cap _ (by simp; omega) ?_
   intro j u hu'
   rw [List.getElem?_take] at hu'
   split at hu'
   ·have hne : ys ≠ [] := by
     rintro rfl
     have : vs = [] := List.eq_nil_of_length_eq_zero (by simpa using hvl)
     subst this
     simp at hu'
    obtain ⟨b, off, hc, hcc⟩ := hcell hne
    obtain rfl := Option.some.inj hc
    rw [Addr.add_lit]
    exact hcc j u hu'
   ·simp at hu'
 have row : ∀ (o' k len : Nat) (ty : TypeId) (xs : List (List FV)), H o' = some (.row ty 1 xs) → 0 < xs.length → k + len ≤ xs.length → es = 1 →
   (∃ aa n c, X.ρ o' = .slice aa n c ∧ ∃ cap, len ≤ cap ∧ a.eval d = .slice (aa.map fun ad => ad.add k) len cap) →
   ∃ w', (execOp a.eval o).run P X.w = .ok (.value (.int .i64 (min ys.length len : Nat))) w' ∧ Rel w0 m ρ0 Φ0 (upd H o' (some (.row ty 1 (xs.take k ++ ys.take len ++ xs.drop (k + (ys.take len).length))))) { X with w := w' } ∧ Later X { X with w := w' } := by
  rintro o' k len ty xs hH hne hle rfl ⟨aa, n', c', hρ', cap', hcap', e1⟩
  have hfl : (ys.take len).flatten.length = min ys.length len := by
   rw [flatten_length (es := 1) (fun x hx => hyl x (List.mem_of_mem_take hx))]
   simp; omega
  have hcs : All2 (FR X.Φ X.w) (ys.take len).flatten (vs.take (min ys.length len)) := by
   rw [flatten_take hyl, Nat.mul_one]
   have h1 := hvs.take len
   have h2 : vs.take (min ys.length len) = vs.take len := by
    rw [show ys.length = vs.length by omega]
    rcases Nat.le_total vs.length len with h | h
    ·rw [Nat.min_eq_left h, List.take_length, List.tkL h]
    ·rw [Nat.min_eq_right h]
   rw [h2]
   exact h1
  have hone : ∀ u ∈ vs.take (min ys.length len), u.oneCell' = true := by
   intro u hu
   obtain ⟨j, hj⟩ := List.getElem?_of_mem hu
   obtain ⟨c, _, hr⟩ := hcs.get' hj
   exact hr.oneCell
  obtain ⟨b, n, cap2, w', hρ, hst, r', l'⟩ := cpyRow_sound (P := P) r hH (List.length_pos_iff.1 hne) (k := k) (fs := ys.take len) (fun x hx => hyl x (List.mem_of_mem_take hx)) hcs hone (by simp; omega)
  rw [hρ] at hρ'
  simp only [Value.slice.injEq] at hρ'
  obtain ⟨rfl, rfl, rfl⟩ := hρ'
  refine ⟨w', ?_, r', l'⟩
  have hf := hfirst (min ys.length len) rfl (by omega)
  have hmin : Nat.min ys.length len = min ys.length len := rfl
  have e1' : a.eval d = .slice (some ⟨b, k, none⟩) len cap' := by rw [e1]; simp [Addr.add_lit]
  simp [execOp, ho, resolve, invoke, builtin, e1', ex, Builtin.copy_, hts', run_underlying ht, Builtin.lenOf, run_sz hes, hmin, hf, hst, goInt]
 unfold cpyAt at h
 split at h
 ·rename_i o' k len
  split at h
  ·rename_i ty cells hH
   split at h
   ·rename_i hb
    obtain ⟨rfl, hle⟩ := hb
    simp only [Option.some.injEq, Prod.mk.injEq] at h
    obtain ⟨rfl, rfl, rfl⟩ := h
    have hfl : (ys.take len).flatten.length = min ys.length len := by
     rw [flatten_length (es := 1) (fun x hx => hyl x (List.mem_of_mem_take hx))]
     simp; omega
    have hcs : All2 (VR X) ((ys.take len).flatten.map EC.fz) (vs.take (min ys.length len)) := by
     rw [flatten_take hyl, Nat.mul_one]
     have h1 := hvs.take len
     have h2 : vs.take (min ys.length len) = vs.take len := by
      rw [show ys.length = vs.length by omega]
      rcases Nat.le_total vs.length len with h | h
      ·rw [Nat.min_eq_left h, List.take_length, List.tkL h]
      ·rw [Nat.min_eq_right h]
     rw [h2]
     refine ⟨by rw [List.length_map]; exact h1.1, ?_⟩
     intro j x y hx hy
     rw [List.getElem?_map] at hx
     obtain ⟨z, hz, rfl⟩ := map_some' hx
     exact h1.2 j z y hz hy
    obtain ⟨hu, b, hρ, cap', hcap', e1⟩ := hdv
    obtain ⟨b', off', w', e2, hst, r', l'⟩ := stoAt_sound (P := P) r (p := .ptr o' k) (v := .pointer (some ⟨b, k, none⟩)) ⟨hu, b, hρ, rfl⟩ hcs (i := o') (x := .box ty (cells.take k ++ (ys.take len).flatten.map EC.fz ++ cells.drop (k + (ys.take len).flatten.length)))
     (by simp only [stoAt, hH]; rw [if_pos (by rw [List.length_map, hfl]; omega), List.length_map])
    simp only [Value.pointer.injEq, Option.some.injEq, Addr.mk.injEq] at e2
    obtain ⟨rfl, rfl, _⟩ := e2
    refine ⟨w', ?_, r', l'⟩
    have hfirst : (Builtin.firstCells 1 (min ys.length len) (.slice ad ys.length cap)).run P X.w = .ok (vs.take (min ys.length len)).toArray X.w := by
     cases ad with
     | none =>
      have hy0 : ys = [] := by
       apply Classical.byContradiction
       intro hne
       obtain ⟨b, off, hc, _⟩ := hcell hne
       simp at hc
      subst hy0
      simp [Builtin.firstCells]
     | some ad =>
      refine run_firstCells_some (P := P) X.w 1 _ ad ys.length cap _ (by simp; omega) ?_
      intro j u hu'
      rw [List.getElem?_take] at hu'
      split at hu'
      ·have hne : ys ≠ [] := by
        rintro rfl
        have : vs = [] := List.eq_nil_of_length_eq_zero (by simpa using hvl)
        subst this
        simp at hu'
       obtain ⟨b, off, hc, hcc⟩ := hcell hne
       obtain rfl := Option.some.inj hc
       rw [Addr.add_lit]
       exact hcc j u hu'
      ·simp at hu'
    have hmin : Nat.min ys.length len = min ys.length len := rfl
    simp [execOp, ho, resolve, invoke, builtin, e1, ex, Builtin.copy_, hts', run_underlying ht, Builtin.lenOf, run_sz hes, hmin, hfirst, hst, goInt]
   ·simp at h
  ·simp at h
 ·rename_i o' len
  split at h
  ·rename_i ty es' xs hH
   split at h
   ·rename_i hb
    obtain ⟨rfl, rfl, hne, hle⟩ := hb
    simp only [Option.some.injEq, Prod.mk.injEq] at h
    obtain ⟨rfl, rfl, rfl⟩ := h
    obtain ⟨hu, ad', n', cap', hρ', q1, q2, e1⟩ := hdv
    exact row o' 0 len ty xs hH hne (by omega) rfl (by rw [hρ'] ; exact ⟨ad', n', cap', rfl, cap', by omega, by rw [e1]; cases ad' <;> simp [Addr.add_zero']⟩)
   ·simp at h
  ·simp at h
 ·rename_i o' k len
  split at h
  ·rename_i ty es' xs hH
   split at h
   ·rename_i hb
    obtain ⟨rfl, rfl, hne, hle⟩ := hb
    simp only [Option.some.injEq, Prod.mk.injEq] at h
    obtain ⟨rfl, rfl, rfl⟩ := h
    obtain ⟨hu, ad', n', c', cap', hρ', q1, e1⟩ := hdv
    exact row o' k len ty xs hH hne hle rfl (by rw [hρ']; exact ⟨ad', n', c', rfl, cap', q1, e1⟩)
   ·simp at h
  ·simp at h
 ·simp at h
theorem Rel.still (r : Rel w0 m ρ0 Φ0 H X) {w' : World}
  (ho : w'.os = X.w.os) (ht : w'.tape = X.w.tape) (hp : w'.output = X.w.output) (hs : w'.heap.size = X.w.heap.size)
  (i : Nat) (x0 : EO) (hi : H i = some x0) (b : Nat) (hbi : hb (X.ρ i) = some b) (hbl : ∀ k, k ≠ b → w'.heap[k]? = X.w.heap[k]?) :
  Rel w0 m ρ0 Φ0 (upd H i none) { X with Φ := fun k => X.Φ k ∨ k = b, w := w' } ∧ Later X { X with Φ := fun k => X.Φ k ∨ k = b, w := w' } := by
 have nΦ : ∀ k, X.Φ k → k ≠ b := fun k hk e => r.dis i x0 b hi (ft_hb hbi) (e ▸ hk)
 have hl : Later X { X with Φ := fun k => X.Φ k ∨ k = b, w := w' } := ⟨fun _ h => h, fun _ _ => rfl, fun _ h => .inl h, fun k hk => hbl k (nΦ k hk)⟩
 have inH : ∀ o y, upd H i none o = some y → o ≠ i ∧ H o = some y := by
  intro o y hy
  by_cases e : o = i
  ·subst e; rw [upd_same] at hy; simp at hy
  ·rw [upd_ne _ _ _ e] at hy; exact ⟨e, hy⟩
 refine ⟨⟨ho.trans r.os, ht.trans r.tape, hp.trans r.output, by simp only [hs]; exact r.size, ?_, r.pin, ?_, ?_, ?_, ?_, ?_, ?_, r.glob.mono hl.Φ hl.w⟩, hl⟩
 ·intro k hk hn
  have : k ≠ b := by
   rintro rfl
   rcases r.own i x0 k hi (ft_hb hbi) with h | h
   ·omega
   ·exact hn h
  exact (hbl k this).trans (r.block k hk hn)
 ·intro o y hy
  obtain ⟨e, hy'⟩ := inH o y hy
  obtain ⟨hu, hor'⟩ := r.obj o y hy'
  refine ⟨hu, hor'.later hl fun k hk => hbl k ?_⟩
  rintro rfl
  exact e (r.inj o i y x0 k hy' hi hk (ft_hb hbi))
 ·intro o o' y y' k h1 h2
  exact r.inj o o' y y' k (inH o y h1).2 (inH o' y' h2).2
 ·intro o y k h1
  exact r.own o y k (inH o y h1).2
 ·intro o y k h1 e1 hΦ
  obtain ⟨e, h1'⟩ := inH o y h1
  rcases hΦ with hΦ | rfl
  ·exact r.dis o y k h1' e1 hΦ
  ·exact e (r.inj o i y x0 k h1' hi e1 (ft_hb hbi))
 ·intro k hk
  simp only [hs]
  rcases hk with hk | rfl
  ·exact r.fro k hk
  ·exact (r.obj i x0 hi).2.lt (ft_hb hbi)
 ·intro k hk
  rcases hk with hk | rfl
  ·exact r.phi k hk
  ·exact .inr (r.own i x0 k hi (ft_hb hbi))
theorem g_mrk {t e : TypeId} {x : Operand} (ho : o.op = .convert t t x) (ht : P.underlying t = some (.slice e)) (he : P.underlying e = some (.int .u8))
  (r : Rel w0 m ρ0 Φ0 H X) (ha : All2 (VV X) T a.tmps.toList) {i len : Nat} (hx : asC (ev T (opd x)) = some (.row i len)) {ty : TypeId} {xs : List (List FV)} (hi : H i = some (.row ty 1 xs)) (hl : len = xs.length) (hne : xs ≠ []) :
  ∃ val X', (execOp a.eval o).run P X.w = .ok (.value val) X'.w ∧ Rel w0 m ρ0 Φ0 (upd H i none) X' ∧ Later X X' ∧ (∀ j, X'.U j ↔ X.U j) ∧ VV X' (.v (.c (.fz (.sl 1 xs)))) val := by
 obtain ⟨hu, ad, n, cap, hρ, h1, h2, hv⟩ := VV_c hx (VV_ev ha x)
 obtain ⟨_, h0, hlen, flat, how, hall⟩ := r.obj i _ hi
 have hxp : 0 < xs.length := List.length_pos_iff.2 hne
 rw [hρ] at how
 obtain ⟨hfl, ⟨e1, e2⟩ | ⟨g, cap', cur, e1, _, hg, hnc, hcm, hcs, htk⟩⟩ := how
 ·omega
 simp only [Value.slice.injEq] at e1
 obtain ⟨rfl, rfl, rfl⟩ := e1
 subst hl
 have hb0 : hb (X.ρ i) = some g := by rw [hρ]; rfl
 have hsh : X.w.shape? g = some (ty, cur.size) := by simp [World.shape?, hg]
 obtain ⟨r', l'⟩ := r.still (w' := X.w.freeze ⟨g, cur.size, none⟩ 1) rfl rfl rfl (by simp [World.freeze]) i _ hi g hb0 (by
  intro k hk
  simp [World.freeze, Array.getElem?_modify, Ne.symm hk])
 have hnew : (X.w.freeze ⟨g, cur.size, none⟩ 1).heap[g]? = some (.cells cur ty (cur.size, cur.size + 1)) := by
  simp [World.freeze, Array.getElem?_modify, hg]
 refine ⟨.slice (some ⟨g, 0, none⟩) xs.length cap, _, ?_, r', l', fun j => Iff.rfl, ?_⟩
 ·simp only [execOp, ho, hv, Sem.run_bind, convert, run_underlying ht, Result.andThen_ok, beq_self_eq_true, run_underlying he]
  simp [markStringish, hsh]
 ·have := FR.sl (Φ := fun k => X.Φ k ∨ k = g) (w := X.w.freeze ⟨g, cur.size, none⟩ 1) 1 xs g 0 cap flat (.inr rfl) (by omega) hlen hfl (by omega)
   (by
    intro j u hj
    rw [Nat.zero_add]
    rw [← htk, List.getElem?_take] at hj
    split at hj
    ·simpa [World.cell?, hnew] using hj
    ·simp at hj)
   (by
    intro j y u hy hu'
    exact l'.fr (hall.2 j y u hy hu'))
  exact this
end
end Go.EW
namespace Go.EW
open Go
def renC (g : Nat → Nat) : EC → EC
 | .fz x => .fz x
 | .ptr o k => .ptr (g o) k
 | .eptr o es i k => .eptr (g o) es i k
 | .row o len => .row (g o) len
 | .bsl o k len => .bsl (g o) k len
 | .rsl o k len => .rsl (g o) k len
 | .fptr cs k => .fptr cs k
 | .clo f caps => .clo f (caps.map fun p => (g p.1, p.2))
 | .mp o => .mp (g o)
def renT (g : Nat → Nat) : TV → TV
 | .c x => .c (renC g x)
 | .agg cs => .agg (cs.map (renC g))
def renV (g : Nat → Nat) : EV → EV
 | .v t => .v (renT g t)
 | .tup ts => .tup (ts.map (renT g))
 | .any => .any
def renO (g : Nat → Nat) : EO → EO
 | .box ty cs => .box ty (cs.map (renC g))
 | .row ty es xs => .row ty es xs
 | .mp rs es => .mp rs es
 | .abs I fs => .abs I fs
def refsC : EC → List Nat
 | .fz _ | .fptr _ _ => []
 | .ptr o _ | .eptr o _ _ _ | .row o _ | .bsl o _ _ | .rsl o _ _ | .mp o => [o]
 | .clo _ caps => caps.map (·.1)
def refsT : TV → List Nat
 | .c x => refsC x
 | .agg cs => cs.flatMap refsC
def refsV : EV → List Nat
 | .v t => refsT t
 | .tup ts => ts.flatMap refsT
 | .any => []
def refsO : EO → List Nat
 | .box _ cs => cs.flatMap refsC
 | .row _ _ _ => []
 | .mp _ _ => []
 | .abs _ _ => []
def noSlC : EC → Bool
 | .fz (.sl _ _) => false
 | .fz (.slc _ _) => false
 | .fptr _ _ => false
 | _ => true
def noSlF : FV → Bool
 | .sl _ _ | .slc _ _ => false
 | .lit _ => true
def noSlT : TV → Bool
 | .c x => noSlC x
 | .agg cs => cs.all noSlC
def noSlV : EV → Bool
 | .v t => noSlT t
 | .tup ts => ts.all noSlT
 | .any => true
def noSlO : EO → Bool
 | .box _ cs => cs.all noSlC
 | .row _ _ xs => xs.all fun x => x.all noSlF
 | .mp _ _ => true
 | .abs _ _ => true
structure RenCx (C Y : Cx) (g : Nat → Nat) : Prop where
 U : ∀ o, C.U o → Y.U (g o)
 ρ : ∀ o, C.U o → Y.ρ (g o) = C.ρ o
 w : Y.w = C.w
theorem ren_vr {C Y : Cx} {g : Nat → Nat} (h : RenCx C Y g) {x : EC} {v : Value} (hf : noSlC x = true ∨ ∀ b, C.Φ b → Y.Φ b) (k : VR C x v) : VR Y (renC g x) v := by
 cases x with
 | fz x =>
  rcases hf with hf | hf
  ·cases x with
   | lit u => cases k; exact FR.lit _ (by assumption)
   | sl es xs => simp [noSlC] at hf
   | slc es xs => simp [noSlC] at hf
  ·exact FR.stable (fun b _ => by rw [h.w]) hf k
 | ptr o i => exact ⟨h.U o k.1, by rw [h.ρ o k.1]; exact k.2⟩
 | eptr o es i j => exact ⟨h.U o k.1, by rw [h.ρ o k.1]; exact k.2⟩
 | row o len => exact ⟨h.U o k.1, by rw [h.ρ o k.1]; exact k.2⟩
 | bsl o i len => exact ⟨h.U o k.1, by rw [h.ρ o k.1]; exact k.2⟩
 | rsl o i len => exact ⟨h.U o k.1, by rw [h.ρ o k.1]; exact k.2⟩
 | fptr cs i =>
  rcases hf with hf | hf
  ·simp [noSlC] at hf
  ·obtain ⟨b, off, hb, hv, vs, hl, hc, hfr⟩ := k
   exact ⟨b, off, hf b hb, hv, vs, hl, fun j u hu => by rw [h.w]; exact hc j u hu, fun j x u hx hu => FR.stable (fun b _ => by rw [h.w]) hf (hfr j x u hx hu)⟩
 | clo f caps =>
  obtain ⟨vs, hv, ha⟩ := k
  refine ⟨vs, hv, by rw [List.length_map]; exact ha.1, ?_⟩
  intro i p u hp hu
  rw [List.getElem?_map] at hp
  obtain ⟨q, hq, rfl⟩ := map_some' hp
  obtain ⟨h1, h2⟩ := ha.2 i q u hq hu
  exact ⟨h.U _ h1, by rw [h.ρ _ h1]; exact h2⟩
 | mp o => exact ⟨h.U o k.1, by rw [h.ρ o k.1]; exact k.2⟩
theorem ren_all {C Y : Cx} {g : Nat → Nat} (h : RenCx C Y g) {cs : List EC} {vs : List Value} (hf : cs.all noSlC = true ∨ ∀ b, C.Φ b → Y.Φ b) (k : All2 (VR C) cs vs) : All2 (VR Y) (cs.map (renC g)) vs := by
 refine ⟨by rw [List.length_map]; exact k.1, ?_⟩
 intro i x y hx hy
 rw [List.getElem?_map] at hx
 obtain ⟨z, hz, rfl⟩ := map_some' hx
 exact ren_vr h (hf.imp (fun h => (List.all_eq_true.1 h) z (List.mgE hz)) id) (k.2 i z y hz hy)
theorem ren_vt {C Y : Cx} {g : Nat → Nat} (h : RenCx C Y g) {x : TV} {v : Value} (hf : noSlT x = true ∨ ∀ b, C.Φ b → Y.Φ b) (k : VT C x v) : VT Y (renT g x) v := by
 cases x with
 | c x => exact ren_vr h hf k
 | agg cs => obtain ⟨vs, hv, ha⟩ := k; exact ⟨vs, hv, ren_all h hf ha⟩
theorem ren_vv {C Y : Cx} {g : Nat → Nat} (h : RenCx C Y g) {x : EV} {v : Value} (hf : noSlV x = true ∨ ∀ b, C.Φ b → Y.Φ b) (k : VV C x v) : VV Y (renV g x) v := by
 cases x with
 | v x => exact ren_vt h hf k
 | tup ts =>
  obtain ⟨vs, hv, ha⟩ := k
  refine ⟨vs, hv, by rw [List.length_map]; exact ha.1, ?_⟩
  intro i x y hx hy
  rw [List.getElem?_map] at hx
  obtain ⟨z, hz, rfl⟩ := map_some' hx
  exact ren_vt h (hf.imp (fun h => (List.all_eq_true.1 h) z (List.mgE hz)) id) (ha.2 i z y hz hy)
 | any => trivial
theorem FR_noSl {Φ Φ' : Nat → Prop} {w w' : World} {x : FV} {v : Value} (h : noSlF x = true) (k : FR Φ w x v) : FR Φ' w' x v := by
 cases x with
 | lit u => cases k; exact FR.lit _ (by assumption)
 | sl es xs => simp [noSlF] at h
 | slc es xs => simp [noSlF] at h
theorem ren_or {C Y : Cx} {g : Nat → Nat} (h : RenCx C Y g) {x : EO} {v : Value} (hf : noSlO x = true ∨ ∀ b, C.Φ b → Y.Φ b) (k : OR C x v) : OR Y (renO g x) v := by
 cases x with
 | box ty cs =>
  obtain ⟨b, c, hv, hh, ha⟩ := k
  exact ⟨b, c, hv, by rw [h.w]; exact hh, ren_all h hf ha⟩
 | row ty es xs =>
  obtain ⟨h0, hl, flat, ho, ha⟩ := k
  refine ⟨h0, hl, flat, by rw [h.w]; exact ho, ha.1, ?_⟩
  intro i x y hx hy
  rcases hf with hf | hf
  ·refine FR_noSl ?_ (ha.2 i x y hx hy)
   have hx' := List.mgE hx
   obtain ⟨l, hl1, hl2⟩ := List.mem_flatten.1 hx'
   have := (List.all_eq_true.1 hf) l hl1
   exact (List.all_eq_true.1 this) x hl2
  ·exact FR.stable (fun b _ => by rw [h.w]) hf (ha.2 i x y hx hy)
 | mp rs ents =>
  obtain ⟨h0, h1, b, es, clock, hv, hh, he⟩ := k
  exact ⟨h0, h1, b, es, clock, hv, by rw [h.w]; exact hh, he⟩
 | abs I fs =>
  show OR Y (.abs I fs) v
  unfold OR
  rw [h.w]
  exact k
theorem refs_vr {X : Cx} {x : EC} {v : Value} (k : VR X x v) : ∀ o ∈ refsC x, X.U o := by
 cases x with
 | fz x => simp [refsC]
 | ptr o i => simpa [refsC] using k.1
 | eptr o es i j => simpa [refsC] using k.1
 | row o len => simpa [refsC] using k.1
 | bsl o i len => simpa [refsC] using k.1
 | rsl o i len => simpa [refsC] using k.1
 | fptr cs i => simp [refsC]
 | clo f caps =>
  obtain ⟨vs, _, ha⟩ := k
  intro o ho
  simp only [refsC, List.mem_map] at ho
  obtain ⟨p, hp, rfl⟩ := ho
  obtain ⟨j, hj⟩ := List.getElem?_of_mem hp
  obtain ⟨u, _, hu⟩ := ha.get hj
  exact hu.1
 | mp o => simpa [refsC] using k.1
theorem refs_all {X : Cx} {cs : List EC} {vs : List Value} (k : All2 (VR X) cs vs) : ∀ o ∈ cs.flatMap refsC, X.U o := by
 intro o ho
 obtain ⟨x, hx, hxo⟩ := List.mem_flatMap.1 ho
 obtain ⟨j, hj⟩ := List.getElem?_of_mem hx
 obtain ⟨u, _, hu⟩ := k.get hj
 exact refs_vr hu o hxo
theorem refs_vt {X : Cx} {x : TV} {v : Value} (k : VT X x v) : ∀ o ∈ refsT x, X.U o := by
 cases x with
 | c x => exact refs_vr k
 | agg cs => obtain ⟨vs, _, ha⟩ := k; exact refs_all ha
theorem refs_vv {X : Cx} {x : EV} {v : Value} (k : VV X x v) : ∀ o ∈ refsV x, X.U o := by
 cases x with
 | v x => exact refs_vt k
 | tup ts =>
  obtain ⟨vs, _, ha⟩ := k
  intro o ho
  obtain ⟨x, hx, hxo⟩ := List.mem_flatMap.1 ho
  obtain ⟨j, hj⟩ := List.getElem?_of_mem hx
  obtain ⟨u, _, hu⟩ := ha.get hj
  exact refs_vt hu o hxo
 | any => simp [refsV]
theorem refs_or {X : Cx} {x : EO} {v : Value} (k : OR X x v) : ∀ o ∈ refsO x, X.U o := by
 cases x with
 | box ty cs => obtain ⟨b, c, _, _, ha⟩ := k; exact refs_all ha
 | row ty es xs => simp [refsO]
 | mp rs es => simp [refsO]
 | abs I fs => simp [refsO]
def idx : List Nat → Nat → Option Nat
 | [], _ => none
 | a :: r, o => if a = o then some 0 else (idx r o).map (· + 1)
theorem idx_some : ∀ {l : List Nat} {o j : Nat}, idx l o = some j → l[j]? = some o
 | [], o, j, h => by simp [idx] at h
 | a :: r, o, j, h => by
  unfold idx at h
  split at h
  ·rename_i e; subst e; obtain rfl := Option.some.inj h; rfl
  ·obtain ⟨k, hk, rfl⟩ := map_some' h
   simpa using idx_some hk
theorem idx_none : ∀ {l : List Nat} {o : Nat}, idx l o = none → o ∉ l
 | [], o, _ => by simp
 | a :: r, o, h => by
  unfold idx at h
  split at h
  ·simp at h
  ·rename_i e
   simp only [Option.map_eq_none_iff] at h
   simp only [List.mem_cons, not_or]
   exact ⟨fun e' => e e'.symm, idx_none h⟩
def capsIn (ids : List Nat) : List (Nat × Nat) → Option (List (Nat × Nat))
 | [] => some []
 | (o, k) :: r => (idx ids o).bind fun j => (capsIn ids r).map ((j, k) :: ·)
def conC (H : Nat → Option EO) (ids : List Nat) : EC → Option EC
 | .fz x => some (.fz x)
 | .fptr cs k => some (.fptr cs k)
 | .ptr o k => (idx ids o).map fun j => .ptr j k
 | .eptr o es i k => (idx ids o).map fun j => .eptr j es i k
 | .clo f caps => (capsIn ids caps).map fun cs => .clo f cs
 | .row o len => match idx ids o with
  | some j => some (.row j len)
  | none => match H o with
   | some (.row _ es xs) => some (.fz (.sl es (xs.take len)))
   | _ => none
 | .bsl o k len => match idx ids o with
  | some j => some (.bsl j k len)
  | none => match H o with
   | some (.box _ cs) => if k + len ≤ cs.length then (frzAll ((cs.drop k).take len)).map fun fs => .fz (.sl 1 (fs.map fun x => [x])) else none
   | _ => none
 | .rsl _ _ _ => none
 | .mp o => (idx ids o).map fun j => .mp j
def conAll (H : Nat → Option EO) (ids : List Nat) : List EC → Option (List EC)
 | [] => some []
 | x :: r => (conC H ids x).bind fun y => (conAll H ids r).map (y :: ·)
def conV (H : Nat → Option EO) (ids : List Nat) : EV → Option EV
 | .v (.c x) => (conC H ids x).map fun y => .v (.c y)
 | .v (.agg cs) => (conAll H ids cs).map fun ys => .v (.agg ys)
 | _ => none
def conArgs (H : Nat → Option EO) (ids : List Nat) : List EV → Option (List EV)
 | [] => some []
 | x :: r => (conV H ids x).bind fun y => (conArgs H ids r).map (y :: ·)
def strC (ids : List Nat) : EC → Option EC
 | .fz x => some (.fz x)
 | .fptr cs k => some (.fptr cs k)
 | .ptr o k => (idx ids o).map fun j => .ptr j k
 | .eptr o es i k => (idx ids o).map fun j => .eptr j es i k
 | .clo f caps => (capsIn ids caps).map fun cs => .clo f cs
 | .row o len => (idx ids o).map fun j => .row j len
 | .bsl o k len => (idx ids o).map fun j => .bsl j k len
 | .rsl _ _ _ => none
 | .mp o => (idx ids o).map fun j => .mp j
def strAll (ids : List Nat) : List EC → Option (List EC)
 | [] => some []
 | x :: r => (strC ids x).bind fun y => (strAll ids r).map (y :: ·)
def strO (ids : List Nat) : EO → Option EO
 | .box ty cs => (strAll ids cs).map fun ys => .box ty ys
 | .row ty es xs => some (.row ty es xs)
 | .mp rs es => some (.mp rs es)
 | .abs I fs => some (.abs I fs)
def objsIn (H : Nat → Option EO) (ids : List Nat) : List Nat → Option (List EO)
 | [] => some []
 | o :: r => (H o).bind fun x => (strO ids x).bind fun y => (objsIn H ids r).map (y :: ·)
def fzC (ids : List Nat) : EC → List Nat
 | .row o _ | .bsl o _ _ => if (idx ids o).isSome then [] else [o]
 | _ => []
def fzV (ids : List Nat) : EV → List Nat
 | .v (.c x) => fzC ids x
 | .v (.agg cs) => cs.flatMap (fzC ids)
 | _ => []
def ofL (H : List EO) : Nat → Option EO := fun i => H[i]?
def ofO (H : List (Option EO)) : Nat → Option EO := fun i => (H[i]?).getD none
def ECalls (P : Program) (f : FuncId) (args : List EV) (H : List EO) (post : EV → List (Option EO) → Prop) : Prop :=
 ∀ (ρ : Nat → Value) (Φ : Nat → Prop) (w : World) (vals : List Value),
  Rel w H.length ⟨ρ, feet (ofL H) ρ⟩ Φ (ofL H) ⟨fun o => o < H.length, ρ, Φ, w⟩ → All2 (VV ⟨fun o => o < H.length, ρ, Φ, w⟩) args vals →
  Calls P f vals.toArray w fun e w' => ∃ y H' v ρ' Φ', e = .returned v ∧ post y H' ∧ H.length ≤ H'.length ∧
   VV ⟨fun o => o < H'.length, ρ', Φ', w'⟩ y v ∧ Rel w H.length ⟨ρ, feet (ofL H) ρ⟩ Φ (ofO H') ⟨fun o => o < H'.length, ρ', Φ', w'⟩
theorem ECalls.mono {P : Program} {f : FuncId} {args : List EV} {H : List EO} {post post' : EV → List (Option EO) → Prop} (h : ECalls P f args H post) (hp : ∀ y H', post y H' → post' y H') : ECalls P f args H post' :=
 fun ρ Φ w vals r a => (h ρ Φ w vals r a).mono fun _ _ ⟨y, H', v, ρ', Φ', he, hpo, rest⟩ => ⟨y, H', v, ρ', Φ', he, hp y H' hpo, rest⟩
def rnm (ids : List Nat) (base : Nat) (j : Nat) : Nat := (ids[j]?).getD (base + (j - ids.length))
def after (H : Nat → Option EO) (ids : List Nat) (base : Nat) (H' : List (Option EO)) : Nat → Option EO := fun o =>
 match idx ids o with
 | some j => (ofO H' j).map (renO (rnm ids base))
 | none => if base ≤ o ∧ o < base + (H'.length - ids.length) then (ofO H' (ids.length + (o - base))).map (renO (rnm ids base)) else H o
end Go.EW
namespace Go.EW
open Go
section
variable {P : Program} {w0 : World} {m : Nat} {ρ0 : Base} {Φ0 : Nat → Prop} {H : Nat → Option EO} {X : Cx} {ids : List Nat}
theorem lt_len {α : Type} {l : List α} {i : Nat} {x : α} (h : l[i]? = some x) : i < l.length := lt_of_get h
structure Into (X C : Cx) (ids : List Nat) : Prop where
 U : ∀ j, j < ids.length → C.U j
 ρ : ∀ (j o : Nat), ids[j]? = some o → C.ρ j = X.ρ o
 Φ : ∀ b, X.Φ b → C.Φ b
 w : C.w = X.w
theorem capsIn_spec {C : Cx} (h : Into X C ids) : ∀ {caps cs : List (Nat × Nat)} {vs : List Value}, capsIn ids caps = some cs →
  All2 (fun (p : Nat × Nat) u => X.U p.1 ∧ ∃ b, X.ρ p.1 = .pointer (some ⟨b, 0, none⟩) ∧ u = .pointer (some ⟨b, p.2, none⟩)) caps vs →
  All2 (fun (p : Nat × Nat) u => C.U p.1 ∧ ∃ b, C.ρ p.1 = .pointer (some ⟨b, 0, none⟩) ∧ u = .pointer (some ⟨b, p.2, none⟩)) cs vs
 | [], cs, vs, hc, ha => by
  simp [capsIn] at hc; subst hc
  obtain rfl := ha.nil_left
  exact All2.nil
 | (o, k) :: r, cs, vs, hc, ha => by
  obtain ⟨u, us, rfl, h1, h2⟩ := ha.cons_left
  simp only [capsIn] at hc
  replace hc := bind_some' hc; obtain ⟨j, hj, hc⟩ := hc
  replace hc := map_some' hc; obtain ⟨cs', hcs, rfl⟩ := hc
  have hj' := idx_some hj
  exact All2.cons ⟨h.U j (lt_len hj'), by rw [h.ρ j o hj']; exact h1.2⟩ (capsIn_spec h hcs h2)
theorem strC_spec {C : Cx} (h : Into X C ids) {x x' : EC} {v : Value} (hs : strC ids x = some x') (k : VR X x v) : VR C x' v := by
 cases x with
 | fz x => simp [strC] at hs; subst hs; exact FR.stable (fun b _ => by rw [h.w]) h.Φ k
 | fptr cs i =>
  simp [strC] at hs; subst hs
  obtain ⟨b, off, hb, hv, vs, hl, hc, hfr⟩ := k
  exact ⟨b, off, h.Φ b hb, hv, vs, hl, fun j u hu => by rw [h.w]; exact hc j u hu, fun j x u hx hu => FR.stable (fun b _ => by rw [h.w]) h.Φ (hfr j x u hx hu)⟩
 | ptr o i =>
  replace hs := map_some' hs; obtain ⟨j, hj, rfl⟩ := hs
  have hj' := idx_some hj
  exact ⟨h.U j (lt_len hj'), by rw [h.ρ j o hj']; exact k.2⟩
 | eptr o es i i' =>
  replace hs := map_some' hs; obtain ⟨j, hj, rfl⟩ := hs
  have hj' := idx_some hj
  exact ⟨h.U j (lt_len hj'), by rw [h.ρ j o hj']; exact k.2⟩
 | row o len =>
  replace hs := map_some' hs; obtain ⟨j, hj, rfl⟩ := hs
  have hj' := idx_some hj
  exact ⟨h.U j (lt_len hj'), by rw [h.ρ j o hj']; exact k.2⟩
 | bsl o i len =>
  replace hs := map_some' hs; obtain ⟨j, hj, rfl⟩ := hs
  have hj' := idx_some hj
  exact ⟨h.U j (lt_len hj'), by rw [h.ρ j o hj']; exact k.2⟩
 | rsl o i len => simp [strC] at hs
 | clo f caps =>
  replace hs := map_some' hs; obtain ⟨cs, hcs, rfl⟩ := hs
  obtain ⟨vs, hv, ha⟩ := k
  exact ⟨vs, hv, capsIn_spec h hcs ha⟩
 | mp o =>
  replace hs := map_some' hs; obtain ⟨j, hj, rfl⟩ := hs
  have hj' := idx_some hj
  exact ⟨h.U j (lt_len hj'), by rw [h.ρ j o hj']; exact k.2⟩
theorem strAll_spec {C : Cx} (h : Into X C ids) : ∀ {cs cs' : List EC} {vs : List Value}, strAll ids cs = some cs' → All2 (VR X) cs vs → All2 (VR C) cs' vs
 | [], cs', vs, hs, ha => by
  simp [strAll] at hs; subst hs
  obtain rfl := ha.nil_left
  exact All2.nil
 | x :: r, cs', vs, hs, ha => by
  obtain ⟨u, us, rfl, h1, h2⟩ := ha.cons_left
  simp only [strAll] at hs
  replace hs := bind_some' hs; obtain ⟨y, hy, hs⟩ := hs
  replace hs := map_some' hs; obtain ⟨ys, hys, rfl⟩ := hs
  exact All2.cons (strC_spec h hy h1) (strAll_spec h hys h2)
theorem strO_spec {C : Cx} (h : Into X C ids) {x x' : EO} {v : Value} (hs : strO ids x = some x') (k : OR X x v) : OR C x' v := by
 cases x with
 | box ty cs =>
  replace hs := map_some' hs; obtain ⟨ys, hys, rfl⟩ := hs
  obtain ⟨b, c, hv, hh, ha⟩ := k
  exact ⟨b, c, hv, by rw [h.w]; exact hh, strAll_spec h hys ha⟩
 | row ty es xs =>
  simp [strO] at hs; subst hs
  obtain ⟨h0, hl, flat, ho, ha⟩ := k
  exact ⟨h0, hl, flat, by rw [h.w]; exact ho, ha.mono fun _ _ => FR.stable (fun b _ => by rw [h.w]) h.Φ⟩
 | mp rs es =>
  simp [strO] at hs; subst hs
  obtain ⟨h0, h1, b, es, clock, hv, hh, he⟩ := k
  exact ⟨h0, h1, b, es, clock, hv, by rw [h.w]; exact hh, he⟩
 | abs I fs =>
  simp [strO] at hs; subst hs
  unfold OR
  rw [h.w]
  exact k
theorem freeze_fr (r : Rel w0 m ρ0 Φ0 H X) {C : Cx} (hΦ : ∀ b, X.Φ b → C.Φ b) (hw : C.w = X.w) {es : Nat} (h0 : 0 < es) {c : EC} {v : Value} (hv : VR X c v) {xs : List (List FV)} (h : elems2 H es c = some xs)
  (hblk : ∀ b, hb v = some b → xs ≠ [] → C.Φ b) : FR C.Φ C.w (.sl es xs) v := by
 obtain ⟨hl, ad, cap, vs, rfl, hcap, hall, hcell⟩ := elems2_spec r hv h
 by_cases hne : xs = []
 ·subst hne
  exact .emp es ad cap
 ·obtain ⟨b, off, rfl, hc⟩ := hcell hne
  refine .sl es xs b off cap vs (hblk b rfl hne) h0 hl (by rw [← hall.1, flatten_length hl]) hcap ?_ ?_
  ·intro j u hu; rw [hw]; exact hc j u hu
  ·intro j x u hx hu
   exact FR.stable (fun b _ => by rw [hw]) hΦ (hall.2 j x u hx hu)
theorem conC_spec (r : Rel w0 m ρ0 Φ0 H X) {C : Cx} (h : Into X C ids) {x x' : EC} {v : Value} (hs : conC H ids x = some x') (hfz : ∀ o ∈ fzC ids x, ∀ y b, H o = some y → hb (X.ρ o) = some b → C.Φ b) (k : VR X x v) : VR C x' v := by
 cases x with
 | fz x => exact strC_spec h (x := .fz x) hs k
 | fptr cs i => exact strC_spec h (x := .fptr cs i) hs k
 | ptr o i => exact strC_spec h (x := .ptr o i) hs k
 | eptr o es i i' => exact strC_spec h (x := .eptr o es i i') hs k
 | clo f caps => exact strC_spec h (x := .clo f caps) hs k
 | mp o => exact strC_spec h (x := .mp o) hs k
 | row o len =>
  simp only [conC] at hs
  split at hs
  ·rename_i j hj
   refine strC_spec h (x := .row o len) ?_ k
   simp only [strC, hj, Option.map_some]
   exact hs
  ·rename_i hj
   split at hs
   ·rename_i ty es xs hH
    obtain rfl := Option.some.inj hs
    have hor := (r.obj o _ hH).2
    refine freeze_fr r h.Φ h.w hor.1 k (by simp [elems2, elemsOf, hH]) ?_
    intro b hb' _
    refine hfz o (by simp [fzC, hj]) _ b hH ?_
    obtain ⟨_, a, n, cap, hρ, _, _, rfl⟩ := k
    rw [hρ]
    cases a <;> simp_all [hb]
   ·simp at hs
 | bsl o i len =>
  simp only [conC] at hs
  split at hs
  ·rename_i j hj
   refine strC_spec h (x := .bsl o i len) ?_ k
   simp only [strC, hj, Option.map_some]
   exact hs
  ·rename_i hj
   split at hs
   ·rename_i ty cs hH
    split at hs
    ·rename_i hle
     replace hs := map_some' hs; obtain ⟨fs, hfs, rfl⟩ := hs
     refine freeze_fr r h.Φ h.w (by omega) k (by simp [elems2, hH, hle, hfs]) ?_
     intro b hb' _
     refine hfz o (by simp [fzC, hj]) _ b hH ?_
     obtain ⟨_, b', hρ, cap, _, rfl⟩ := k
     rw [hρ]
     simp [hb] at hb' ⊢
     exact hb'
    ·simp at hs
   ·simp at hs
 | rsl o i len => simp [conC] at hs
theorem conAll_spec (r : Rel w0 m ρ0 Φ0 H X) {C : Cx} (h : Into X C ids) : ∀ {cs cs' : List EC} {vs : List Value}, conAll H ids cs = some cs' → (∀ o ∈ cs.flatMap (fzC ids), ∀ y b, H o = some y → hb (X.ρ o) = some b → C.Φ b) → All2 (VR X) cs vs → All2 (VR C) cs' vs
 | [], cs', vs, hs, _, ha => by
  simp [conAll] at hs; subst hs
  obtain rfl := ha.nil_left
  exact All2.nil
 | x :: r', cs', vs, hs, hfz, ha => by
  obtain ⟨u, us, rfl, h1, h2⟩ := ha.cons_left
  simp only [conAll] at hs
  replace hs := bind_some' hs; obtain ⟨y, hy, hs⟩ := hs
  replace hs := map_some' hs; obtain ⟨ys, hys, rfl⟩ := hs
  exact All2.cons (conC_spec r h hy (fun o ho => hfz o (by simp [ho])) h1) (conAll_spec r h hys (fun o ho => hfz o (by
   rw [List.flatMap_cons]
   exact List.mem_append_right _ ho)) h2)
theorem conV_spec (r : Rel w0 m ρ0 Φ0 H X) {C : Cx} (h : Into X C ids) {x x' : EV} {v : Value} (hs : conV H ids x = some x') (hfz : ∀ o ∈ fzV ids x, ∀ y b, H o = some y → hb (X.ρ o) = some b → C.Φ b) (k : VV X x v) : VV C x' v := by
 unfold conV at hs
 split at hs
 ·replace hs := map_some' hs; obtain ⟨y, hy, rfl⟩ := hs
  exact conC_spec r h hy hfz k
 ·replace hs := map_some' hs; obtain ⟨ys, hys, rfl⟩ := hs
  obtain ⟨vs, hv, ha⟩ := k
  exact ⟨vs, hv, conAll_spec r h hys hfz ha⟩
 ·simp at hs
theorem conArgs_spec (r : Rel w0 m ρ0 Φ0 H X) {C : Cx} (h : Into X C ids) : ∀ {xs xs' : List EV} {vs : List Value}, conArgs H ids xs = some xs' → (∀ o ∈ xs.flatMap (fzV ids), ∀ y b, H o = some y → hb (X.ρ o) = some b → C.Φ b) → All2 (VV X) xs vs → All2 (VV C) xs' vs
 | [], cs', vs, hs, _, ha => by
  simp [conArgs] at hs; subst hs
  obtain rfl := ha.nil_left
  exact All2.nil
 | x :: r', cs', vs, hs, hfz, ha => by
  obtain ⟨u, us, rfl, h1, h2⟩ := ha.cons_left
  simp only [conArgs] at hs
  replace hs := bind_some' hs; obtain ⟨y, hy, hs⟩ := hs
  replace hs := map_some' hs; obtain ⟨ys, hys, rfl⟩ := hs
  exact All2.cons (conV_spec r h hy (fun o ho => hfz o (by rw [List.flatMap_cons]; exact List.mem_append_left _ ho)) h1) (conArgs_spec r h hys (fun o ho => hfz o (by
   rw [List.flatMap_cons]
   exact List.mem_append_right _ ho)) h2)
theorem objsIn_spec : ∀ {l : List Nat} {Hc : List EO}, objsIn H ids l = some Hc → Hc.length = l.length ∧ ∀ (j o : Nat), l[j]? = some o → ∃ x y, H o = some x ∧ strO ids x = some y ∧ Hc[j]? = some y
 | [], Hc, h => by simp [objsIn] at h; subst h; simp
 | o :: r, Hc, h => by
  simp only [objsIn] at h
  replace h := bind_some' h; obtain ⟨x, hx, h⟩ := h
  replace h := bind_some' h; obtain ⟨y, hy, h⟩ := h
  replace h := map_some' h; obtain ⟨ys, hys, rfl⟩ := h
  obtain ⟨h1, h2⟩ := objsIn_spec hys
  refine ⟨by simp [h1], ?_⟩
  intro j o' hj
  cases j with
  | zero => simp at hj; subst hj; exact ⟨x, y, hx, hy, rfl⟩
  | succ j => simpa using h2 j o' (by simpa using hj)
theorem fz_notin {ids : List Nat} {x : EV} {o : Nat} (h : o ∈ fzV ids x) : o ∉ ids := by
 have key : ∀ c, o ∈ fzC ids c → o ∉ ids := by
  intro c hc
  unfold fzC at hc
  split at hc
  ·split at hc
   ·simp at hc
   ·rename_i hn
    simp at hc; subst hc
    exact idx_none (by simpa using hn)
  ·split at hc
   ·simp at hc
   ·rename_i hn
    simp at hc; subst hc
    exact idx_none (by simpa using hn)
  ·simp at hc
 unfold fzV at h
 split at h
 ·exact key _ h
 ·obtain ⟨c, _, hc⟩ := List.mem_flatMap.1 h
  exact key c hc
 ·simp at h
theorem strO_ft {x y : EO} {v : Value} {b : Nat} (h : strO ids x = some y) (k : ft y v b) : ft x v b := by
 cases x with
 | box ty cs =>
  simp only [strO, Option.map_eq_some_iff] at h
  obtain ⟨ys, _, rfl⟩ := h
  exact k
 | row ty es xs => obtain rfl := Option.some.inj h; exact k
 | mp rs es => obtain rfl := Option.some.inj h; exact k
 | abs I fs => obtain rfl := Option.some.inj h; exact k
theorem ren_ft {g : Nat → Nat} {x : EO} {v : Value} {b : Nat} : ft (renO g x) v b = ft x v b := by
 cases x <;> rfl
theorem call_sound {f : FuncId} {args args' : List EV} {Hc : List EO} {post : EV → List (Option EO) → Prop} {base : Nat} (hE : ECalls P f args' Hc post)
  (hcon : conArgs H ids args = some args') (hin : objsIn H ids ids = some Hc) (hnd : ids.Nodup) (r : Rel w0 m ρ0 Φ0 H X) {vals : List Value} (hv : All2 (VV X) args vals)
  (hfree : ∀ o, base ≤ o → o < base + 16 → ¬ X.U o) (hm : m ≤ base)
  (hpost : ∀ y H', post y H' → (args.flatMap (fzV ids) = [] ∨ (noSlV y = true ∧ ∀ x, some x ∈ H' → noSlO x = true)) ∧ H'.length ≤ ids.length + 16) :
  Calls P f vals.toArray X.w fun e w' => ∃ y H' v X', e = .returned v ∧ post y H' ∧ X'.w = w' ∧ Rel w0 m ρ0 Φ0 (after H ids base H') X' ∧ Later X X' ∧
   (∀ o, X'.U o ↔ X.U o ∨ (base ≤ o ∧ o < base + (H'.length - ids.length))) ∧ VV X' (renV (rnm ids base) y) v := by
 obtain ⟨hlen, hobj⟩ := objsIn_spec hin
 -- the callee's context
 let ρc : Nat → Value := fun j => X.ρ ((ids[j]?).getD 0)
 let Φc : Nat → Prop := fun b => X.Φ b ∨ ∃ o ∈ args.flatMap (fzV ids), ∃ x, H o = some x ∧ hb (X.ρ o) = some b
 let C : Cx := ⟨fun o => o < Hc.length, ρc, Φc, X.w⟩
 have hinto : Into X C ids := ⟨fun j hj => by show j < Hc.length; omega, fun j o hj => by show X.ρ _ = _; rw [hj]; rfl, fun b hb => .inl hb, rfl⟩
 have hfzn : ∀ o ∈ args.flatMap (fzV ids), o ∉ ids := by
  intro o ho
  obtain ⟨x, _, hx⟩ := List.mem_flatMap.1 ho
  exact fz_notin hx
 have hget : ∀ (j : Nat) (y : EO), Hc[j]? = some y → ∃ o x, ids[j]? = some o ∧ H o = some x ∧ strO ids x = some y := by
  intro j y hj
  have hj' : j < ids.length := by rw [← hlen]; exact lt_len hj
  obtain ⟨x, y', h1, h2, h3⟩ := hobj j ids[j] (by simp [hj'])
  obtain rfl := Option.some.inj (h3.symm.trans hj)
  exact ⟨ids[j], x, by simp [hj'], h1, h2⟩
 have hρc : ∀ (j o : Nat), ids[j]? = some o → ρc j = X.ρ o := hinto.ρ
 have hlive : ∀ o, o ∈ ids → ∃ x, H o = some x := by
  intro o ho
  obtain ⟨j, hj⟩ := List.getElem?_of_mem ho
  obtain ⟨x, _, h1, _⟩ := hobj j o hj
  exact ⟨x, h1⟩
 have hentry : Rel X.w Hc.length ⟨ρc, feet (ofL Hc) ρc⟩ Φc (ofL Hc) C := by
  refine ⟨rfl, rfl, rfl, Nat.le_refl _, fun _ _ _ => rfl, fun _ _ => rfl, ?_, ?_, ?_, ?_, ?_, fun b h => .inl h, r.glob.mono (fun b hb => .inl hb) (fun _ _ => rfl)⟩
  ·intro j y hj
   obtain ⟨o, x, h1, h2, h3⟩ := hget j y hj
   refine ⟨lt_len hj, ?_⟩
   show OR C y (ρc j)
   rw [hρc j o h1]
   exact strO_spec hinto h3 (r.obj o x h2).2
  ·intro j j' y y' b hj hj' e1 e2
   obtain ⟨o, x, h1, h2, h3⟩ := hget j y hj
   obtain ⟨o', x', h1', h2', h3'⟩ := hget j' y' hj'
   have e1' : ft x (X.ρ o) b := by rw [← hρc j o h1]; exact strO_ft h3 e1
   have e2' : ft x' (X.ρ o') b := by rw [← hρc j' o' h1']; exact strO_ft h3' e2
   have := r.inj o o' x x' b h2 h2' e1' e2'
   subst this
   exact (List.getElem?_inj (lt_len h1) hnd).1 (h1.trans h1'.symm)
  ·intro j y b hj e1
   exact .inr ⟨j, y, hj, e1⟩
  ·intro j y b hj e1 hΦ
   obtain ⟨o, x, h1, h2, h3⟩ := hget j y hj
   have e1' : ft x (X.ρ o) b := by rw [← hρc j o h1]; exact strO_ft h3 e1
   rcases hΦ with hΦ | ⟨o', ho', x', hx', hb'⟩
   ·exact r.dis o x b h2 e1' hΦ
   ·have := r.inj o o' x x' b h2 hx' e1' (ft_hb hb')
    subst this
    exact hfzn o ho' (List.mgE h1)
  ·intro b hΦ
   rcases hΦ with hΦ | ⟨o', ho', x', hx', hb'⟩
   ·exact r.fro b hΦ
   ·exact ((r.obj o' x' hx').2).lt (ft_hb hb')
 have hargs : All2 (VV C) args' vals := conArgs_spec r hinto hcon (fun o ho y b hy hb' => .inr ⟨o, ho, y, hy, hb'⟩) hv
 refine (hE ρc Φc X.w vals hentry hargs).mono ?_
 rintro e w' ⟨y, H', v, ρ', Φ', rfl, hpo, hle, hvv, hR⟩
 obtain ⟨hal, hmax⟩ := hpost y H' hpo
 -- the caller's context behind the call
 let X' : Cx := ⟨fun o => X.U o ∨ (base ≤ o ∧ o < base + (H'.length - ids.length)), fun o => if base ≤ o ∧ o < base + (H'.length - ids.length) then ρ' (ids.length + (o - base)) else X.ρ o,
  fun b => X.Φ b ∨ (args.flatMap (fzV ids) = [] ∧ Φ' b), w'⟩
 have hnr : ∀ o, X.U o → ¬ (base ≤ o ∧ o < base + (H'.length - ids.length)) := by
  intro o hu ⟨h1, h2⟩
  exact hfree o h1 (by omega) hu
 have hρX : ∀ o, X.U o → X'.ρ o = X.ρ o := fun o hu => if_neg (hnr o hu)
 have hρ'j : ∀ (j o : Nat), ids[j]? = some o → ρ' j = X.ρ o := by
  intro j o hj
  rw [← hρc j o hj]
  exact hR.pin j (by rw [hlen]; exact lt_len hj)
 have hidU : ∀ o, o ∈ ids → X.U o := fun o ho => let ⟨x, hx⟩ := hlive o ho; (r.obj o x hx).1
 have hren : RenCx ⟨fun o => o < H'.length, ρ', Φ', w'⟩ X' (rnm ids base) := by
  refine ⟨?_, ?_, rfl⟩
  ·intro j hj
   have hj : j < H'.length := hj
   unfold rnm
   cases hi : ids[j]? with
   | some o => exact .inl (hidU o (List.mgE hi))
   | none =>
    have := List.getElem?_eq_none_iff.1 hi
    refine .inr ⟨by simp, ?_⟩
    simp only [Option.getD_none]
    omega
  ·intro j hj
   have hj : j < H'.length := hj
   unfold rnm
   cases hi : ids[j]? with
   | some o =>
    show X'.ρ o = ρ' j
    rw [hρX o (hidU o (List.mgE hi)), hρ'j j o hi]
   | none =>
    have := List.getElem?_eq_none_iff.1 hi
    show (if base ≤ base + (j - ids.length) ∧ base + (j - ids.length) < base + (H'.length - ids.length) then ρ' (ids.length + (base + (j - ids.length) - base)) else X.ρ _) = ρ' j
    rw [if_pos ⟨by omega, by omega⟩]
    congr 1
    omega
 have hΦs : args.flatMap (fzV ids) = [] → ∀ b, Φ' b → X'.Φ b := fun h b hb => .inr ⟨h, hb⟩
 -- the live objects behind the call
 have hcls : ∀ o x, after H ids base H' o = some x → (∃ j x0, j < H'.length ∧ o = rnm ids base j ∧ ofO H' j = some x0 ∧ x = renO (rnm ids base) x0) ∨ (H o = some x ∧ o ∉ ids ∧ X.U o) := by
  intro o x ho
  unfold after at ho
  split at ho
  ·rename_i j hj
   replace ho := map_some' ho; obtain ⟨x0, h1, rfl⟩ := ho
   have hj' := idx_some hj
   refine .inl ⟨j, x0, ?_, ?_, h1, rfl⟩
   ·have := lt_len hj'; omega
   ·unfold rnm; rw [hj']; rfl
  ·rename_i hj
   split at ho
   ·rename_i hrg
    replace ho := map_some' ho; obtain ⟨x0, h1, rfl⟩ := ho
    refine .inl ⟨ids.length + (o - base), x0, by omega, ?_, h1, rfl⟩
    unfold rnm
    rw [List.getElem?_eq_none (by omega)]
    simp only [Option.getD_none]
    omega
   ·exact .inr ⟨ho, idx_none hj, (r.obj o x ho).1⟩
 have hXρ : ∀ j, j < H'.length → X'.ρ (rnm ids base j) = ρ' j := fun j hj => hren.ρ j hj
 have hpass : ∀ b, feet (ofL Hc) ρc b → ∃ o x, o ∈ ids ∧ H o = some x ∧ ft x (X.ρ o) b := by
  rintro b ⟨j, y, hj, hbj⟩
  obtain ⟨o, x, h1, h2, h3⟩ := hget j y hj
  exact ⟨o, x, List.mgE h1, h2, by rw [← hρc j o h1]; exact strO_ft h3 hbj⟩
 have hnotpass : ∀ o x b, H o = some x → o ∉ ids → ft x (X.ρ o) b → ¬ feet (ofL Hc) ρc b := by
  intro o x b hx hn hbo e
  obtain ⟨o', x', h1, h2, h3⟩ := hpass b e
  have := r.inj o o' x x' b hx h2 hbo h3
  subst this
  exact hn h1
 have hNw : ∀ o x b, H o = some x → o ∉ ids → ft x (X.ρ o) b → w'.heap[b]? = X.w.heap[b]? := by
  intro o x b hx hn hbo
  exact hR.block b (((r.obj o x hx).2).lt hbo) (hnotpass o x b hx hn hbo)
 have hΦw : ∀ b, X.Φ b → w'.heap[b]? = X.w.heap[b]? := by
  intro b hΦ
  refine hR.block b (r.fro b hΦ) ?_
  intro e
  obtain ⟨o', x', _, h2, h3⟩ := hpass b e
  exact r.dis o' x' b h2 h3 hΦ
 have hlater : Later X X' := ⟨fun _ h => .inl h, hρX, fun _ h => .inl h, hΦw⟩
 have hPown : ∀ j x0 b, ofO H' j = some x0 → ft x0 (ρ' j) b → X.w.heap.size ≤ b ∨ ∃ o x, o ∈ ids ∧ H o = some x ∧ ft x (X.ρ o) b := by
  intro j x0 b h1 h2
  rcases hR.own j x0 b h1 h2 with h | h
  ·exact .inl h
  ·exact .inr (hpass b h)
 refine ⟨y, H', v, X', rfl, hpo, rfl, ⟨hR.os.trans r.os, hR.tape.trans r.tape, hR.output.trans r.output, Nat.le_trans r.size hR.size, ?_, ?_, ?_, ?_, ?_, ?_, ?_, ?_, r.glob.mono hlater.Φ hlater.w⟩, hlater, fun o => Iff.rfl, ?_⟩
 ·intro b hb' hn
  rw [← r.block b hb' hn]
  refine hR.block b (Nat.lt_of_lt_of_le hb' r.size) ?_
  intro e
  obtain ⟨o', x', _, h2, h3⟩ := hpass b e
  rcases r.own o' x' b h2 h3 with h | h
  ·omega
  ·exact hn h
 ·intro o ho
  show (if base ≤ o ∧ o < base + (H'.length - ids.length) then ρ' (ids.length + (o - base)) else X.ρ o) = ρ0.ρ o
  rw [if_neg (by omega)]
  exact r.pin o ho
 ·intro o x ho
  rcases hcls o x ho with ⟨j, x0, hj, rfl, h1, rfl⟩ | ⟨h1, h2, h3⟩
  ·refine ⟨hren.U j hj, ?_⟩
   rw [hXρ j hj]
   refine ren_or hren ?_ (hR.obj j x0 h1).2
   rcases hal with hal | ⟨_, hal⟩
   ·exact .inr (hΦs hal)
   ·refine .inl (hal x0 ?_)
    have : H'[j]? = some (some x0) := by
     unfold ofO at h1
     cases h : H'[j]? with
     | none => rw [h] at h1; simp at h1
     | some z => rw [h] at h1; simp at h1; rw [h1]
    exact List.mgE this
  ·refine ⟨.inl h3, ?_⟩
   rw [hρX o h3]
   exact ((r.obj o x h1).2).later hlater fun b hb' => hNw o x b h1 h2 hb'
 ·intro o o' x x' b ho ho' e1 e2
  rcases hcls o x ho with ⟨j, x0, hj, rfl, h1, rfl⟩ | ⟨h1, h2, h3⟩
  ·rcases hcls o' x' ho' with ⟨j', x0', hj', rfl, h1', rfl⟩ | ⟨h1', h2', h3'⟩
   ·rw [ren_ft, hXρ j hj] at e1
    rw [ren_ft, hXρ j' hj'] at e2
    rw [hR.inj j j' x0 x0' b h1 h1' e1 e2]
   ·exfalso
    rw [ren_ft, hXρ j hj] at e1
    rw [hρX o' h3'] at e2
    rcases hPown j x0 b h1 e1 with h | ⟨oo, xx, q1, q2, q3⟩
    ·have := ((r.obj o' x' h1').2).lt e2
     omega
    ·have := r.inj oo o' xx x' b q2 h1' q3 e2
     subst this
     exact h2' q1
  ·rcases hcls o' x' ho' with ⟨j', x0', hj', rfl, h1', rfl⟩ | ⟨h1', h2', h3'⟩
   ·exfalso
    rw [ren_ft, hXρ j' hj'] at e2
    rw [hρX o h3] at e1
    rcases hPown j' x0' b h1' e2 with h | ⟨oo, xx, q1, q2, q3⟩
    ·have := ((r.obj o x h1).2).lt e1
     omega
    ·have := r.inj oo o xx x b q2 h1 q3 e1
     subst this
     exact h2 q1
   ·rw [hρX o h3] at e1
    rw [hρX o' h3'] at e2
    exact r.inj o o' x x' b h1 h1' e1 e2
 ·intro o x b ho e1
  rcases hcls o x ho with ⟨j, x0, hj, rfl, h1, rfl⟩ | ⟨h1, h2, h3⟩
  ·rw [ren_ft, hXρ j hj] at e1
   rcases hPown j x0 b h1 e1 with h | ⟨oo, xx, q1, q2, q3⟩
   ·exact .inl (Nat.le_trans r.size h)
   ·exact r.own oo xx b q2 q3
  ·rw [hρX o h3] at e1
   exact r.own o x b h1 e1
 ·intro o x b ho e1 hΦ
  rcases hcls o x ho with ⟨j, x0, hj, rfl, h1, rfl⟩ | ⟨h1, h2, h3⟩
  ·rw [ren_ft, hXρ j hj] at e1
   rcases hΦ with hΦ | ⟨_, hΦ⟩
   ·rcases hPown j x0 b h1 e1 with h | ⟨oo, xx, q1, q2, q3⟩
    ·have := r.fro b hΦ
     omega
    ·exact r.dis oo xx b q2 q3 hΦ
   ·exact hR.dis j x0 b h1 e1 hΦ
  ·rw [hρX o h3] at e1
   rcases hΦ with hΦ | ⟨hz, hΦ⟩
   ·exact r.dis o x b h1 e1 hΦ
   ·rcases hR.phi b hΦ with h | h | h
    ·rcases h with h | ⟨oo, hoo, _⟩
     ·exact r.dis o x b h1 e1 h
     ·rw [hz] at hoo; simp at hoo
    ·have := ((r.obj o x h1).2).lt e1
     omega
    ·exact hnotpass o x b h1 h2 e1 h
 ·intro b hΦ
  rcases hΦ with hΦ | ⟨_, hΦ⟩
  ·exact Nat.lt_of_lt_of_le (r.fro b hΦ) hR.size
  ·exact hR.fro b hΦ
 ·intro b hΦ
  rcases hΦ with hΦ | ⟨hz, hΦ⟩
  ·exact r.phi b hΦ
  ·rcases hR.phi b hΦ with h | h | h
   ·rcases h with h | ⟨oo, hoo, _⟩
    ·exact r.phi b h
    ·rw [hz] at hoo; simp at hoo
   ·exact .inr (.inl (Nat.le_trans r.size h))
   ·obtain ⟨o', x', _, h2, h3⟩ := hpass b h
    exact .inr (r.own o' x' b h2 h3)
 ·refine ren_vv hren ?_ hvv
  rcases hal with hal | ⟨hal, _⟩
  ·exact .inr (hΦs hal)
  ·exact .inl hal
end
end Go.EW
namespace Go.EW
open Go
def QOp.opds : QOp → List Opd
 | .mov x | .un _ x | .cnv _ x | .eqp _ x | .eqi _ x | .box _ x | .ldc x | .lda _ x | .nilc x | .fad _ x | .fgc _ x | .fga _ _ x | .ext _ x | .mki _ x | .len x | .lens x | .b2s x | .s2b x | .s2a _ _ x => [x]
 | .pick c a b => [c, a, b]
 | .bin _ x y | .eqb _ x y | .eqa _ _ _ x y | .eqz _ _ x y | .eqs _ _ _ _ x y | .eqw _ _ x y | .mget _ _ x y | .iad _ _ x y | .isl _ x y | .mks _ _ _ _ x y | .ixs x y => [x, y]
 | .alloc _ _ => []
 | .build _ ps => ps.map (·.2.2)
 | .bsl _ _ _ ps | .bsr _ _ _ _ ps => ps.map (·.2)
 | .ssl _ x lo hi | .sar _ x lo hi | .sst x lo hi => x :: (lo.toList ++ hi.toList)
 | .sl3 _ x hi mx => [x, hi, mx]
 | .mkf _ cs => cs
 | .minmax _ xs => xs
def QOp.looks (q : QOp) (T : List EV) : List Nat :=
 match q with
 | .ldc x | .lda _ x => match asC (ev T x) with
  | some (.ptr o _) => [o]
  | some (.eptr o _ _ _) => [o]
  | _ => []
 | .isl _ x _ | .s2a _ _ x => match asC (ev T x) with
  | some (.row o _) => [o]
  | _ => []
 | .mget _ _ x _ => match asC (ev T x) with
  | some (.mp o) => [o]
  | _ => []
 | .b2s x => match asC (ev T x) with
  | some (.row o _) => [o]
  | some (.bsl o _ _) => [o]
  | _ => []
 | _ => []
theorem putParts_congr {T T' : List EV} : ∀ (ps : List (Nat × Nat × Opd)) (cs : List EC), (∀ x ∈ ps.map (·.2.2), ev T x = ev T' x) → putParts T cs ps = putParts T' cs ps
 | [], _, _ => rfl
 | (off, n, x) :: r, cs, h => by
  have h1 : ev T x = ev T' x := h x (by simp)
  have h2 : ∀ cs, putParts T cs r = putParts T' cs r := fun cs => putParts_congr r cs (fun y hy => h y (by rw [List.map_cons]; exact List.mem_cons_of_mem _ hy))
  simp only [putParts, h1, h2]
theorem setParts_congr {T T' : List EV} (es : Nat) : ∀ (ps : List (Nat × Opd)) (xs : List (List FV)), (∀ x ∈ ps.map (·.2), ev T x = ev T' x) → setParts T es xs ps = setParts T' es xs ps
 | [], _, _ => rfl
 | (i, x) :: r, xs, h => by
  have h1 : ev T x = ev T' x := h x (by simp)
  have h2 : ∀ cs, setParts T es cs r = setParts T' es cs r := fun cs => setParts_congr es r cs (fun y hy => h y (by rw [List.map_cons]; exact List.mem_cons_of_mem _ hy))
  simp only [setParts, h1, h2]
theorem lits_congr {T T' : List EV} : ∀ (xs : List Opd), (∀ x ∈ xs, ev T x = ev T' x) → lits T xs = lits T' xs
 | [], _ => rfl
 | x :: r, h => by
  simp only [lits, h x (by simp), lits_congr r (fun y hy => h y (by simp [hy]))]
theorem capsOf_congr {T T' : List EV} : ∀ (xs : List Opd), (∀ x ∈ xs, ev T x = ev T' x) → capsOf T xs = capsOf T' xs
 | [], _ => rfl
 | x :: r, h => by
  simp only [capsOf, h x (by simp), capsOf_congr r (fun y hy => h y (by simp [hy]))]
theorem bnd_congr {T T' : List EV} (d : Nat) (x : Option Opd) (h : ∀ y ∈ x.toList, ev T y = ev T' y) : bnd T d x = bnd T' d x := by
 cases x with
 | none => rfl
 | some y => simp only [bnd, h y (by simp)]
theorem evQ_T {q : QOp} {T T' : List EV} {H : Nat → Option EO} {id : Nat} (h : ∀ x ∈ q.opds, ev T x = ev T' x) : evQ q T H id = evQ q T' H id := by
 cases q <;> simp only [QOp.opds] at h <;> simp only [evQ]
 case build z ps => rw [putParts_congr ps _ h]
 case bsl es z len ps => rw [setParts_congr es ps _ h]
 case bsr ty es z len ps => rw [setParts_congr es ps _ h]
 case mkf f cs => rw [capsOf_congr cs h]
 case minmax mx xs => rw [lits_congr xs h]
 case ssl es x lo hi =>
  rw [h x (by simp)]
  simp only [bnd_congr 0 lo (fun y hy => h y (by simp [Option.mem_toList.1 hy])), fun d => bnd_congr (T := T) (T' := T') d hi (fun y hy => h y (by simp [Option.mem_toList.1 hy]))]
 case sl3 es x hi mx =>
  rw [h x (by simp)]
  simp only [bnd, h hi (by simp), h mx (by simp)]
 case sar len x lo hi =>
  rw [h x (by simp)]
  simp only [bnd_congr 0 lo (fun y hy => h y (by simp [Option.mem_toList.1 hy])), fun d => bnd_congr (T := T) (T' := T') d hi (fun y hy => h y (by simp [Option.mem_toList.1 hy]))]
 case sst x lo hi =>
  rw [h x (by simp)]
  simp only [bnd_congr 0 lo (fun y hy => h y (by simp [Option.mem_toList.1 hy])), fun d => bnd_congr (T := T) (T' := T') d hi (fun y hy => h y (by simp [Option.mem_toList.1 hy]))]
 all_goals first
  | (rw [h _ (List.mem_cons_self ..), h _ (List.mem_cons_of_mem _ (List.mem_cons_self ..)), h _ (List.mem_cons_of_mem _ (List.mem_cons_of_mem _ (List.mem_cons_self ..)))]; done)
  | (rw [h _ (List.mem_cons_self ..), h _ (List.mem_cons_of_mem _ (List.mem_cons_self ..))]; done)
  | (rw [h _ (List.mem_cons_self ..)]; done)
theorem looks_T {q : QOp} {T T' : List EV} (h : ∀ x ∈ q.opds, ev T x = ev T' x) : q.looks T = q.looks T' := by
 cases q <;> simp only [QOp.opds] at h <;> simp only [QOp.looks] <;> rw [h _ (List.mem_cons_self ..)]
theorem cellsAt_H {H H' : Nat → Option EO} {p : EC} (h : ∀ o ∈ (match p with | .ptr o _ => [o] | .eptr o _ _ _ => [o] | _ => []), H o = H' o) : cellsAt H p = cellsAt H' p := by
 cases p <;> simp only [cellsAt] <;> first | rfl | rw [h _ (by simp)]
theorem cellsAtN_H {H H' : Nat → Option EO} {n : Nat} {p : EC} (h : ∀ o ∈ (match p with | .ptr o _ => [o] | .eptr o _ _ _ => [o] | _ => []), H o = H' o) : cellsAtN H n p = cellsAtN H' n p := by
 unfold cellsAtN
 rw [cellsAt_H h]
 have e : cellsRun H p = cellsRun H' p := by
  cases p <;> simp only [cellsRun] <;> first | rfl | rw [h _ (by simp)]
 rw [e]
theorem evQ_H {q : QOp} {T : List EV} {H H' : Nat → Option EO} {id : Nat} (h : ∀ o ∈ q.looks T, H o = H' o) : evQ q T H id = evQ q T H' id := by
 cases q <;> simp only [QOp.looks] at h <;> simp only [evQ]
 case ldc x =>
  cases hx : asC (ev T x) with
  | none => rfl
  | some p =>
   rw [hx] at h
   simp only [Option.bind_some]
   rw [cellsAt_H (H := H) (H' := H') (p := p) (by cases p <;> exact h)]
 case lda n x =>
  cases hx : asC (ev T x) with
  | none => rfl
  | some p =>
   rw [hx] at h
   simp only [Option.bind_some]
   rw [cellsAtN_H (H := H) (H' := H') (p := p) (by cases p <;> exact h)]
 case isl es x i =>
  cases hx : asC (ev T x) with
  | none => rfl
  | some p =>
   rw [hx] at h
   cases p with
   | row o len => dsimp only; rw [h o (by simp)]
   | fz y => cases y <;> rfl
   | _ => rfl
 case s2a n es x =>
  cases hx : asC (ev T x) with
  | none => rfl
  | some p =>
   rw [hx] at h
   cases p with
   | row o len => dsimp only; rw [h o (by simp)]
   | fz y => cases y <;> rfl
   | _ => rfl
 case mget rs zq x k =>
  cases hx : asC (ev T x) with
  | none => rfl
  | some p =>
   rw [hx] at h
   cases p with
   | mp o => simp only [Option.bind_some, mpOf]; rw [h o (by simp)]
   | _ => rfl
 case b2s x =>
  cases hx : asC (ev T x) with
  | none => rfl
  | some p =>
   rw [hx] at h
   simp only [Option.bind_some]
   have he : elems2 H 1 p = elems2 H' 1 p := by
    cases p with
    | row o len => simp only [elems2, elemsOf]; rw [h o (by simp)]
    | bsl o k len => simp only [elems2]; rw [h o (by simp)]
    | _ => rfl
   rw [he]
theorem evQ_live {q : QOp} {T : List EV} {H : Nat → Option EO} {id : Nat} {r : EV × Option EO} (h : evQ q T H id = some r) : ∀ o ∈ q.looks T, H o ≠ none := by
 intro o ho hn
 cases q <;> simp only [QOp.looks] at ho <;> try (simp at ho; done)
 case ldc x =>
  simp only [evQ] at h
  split at ho
  ·rename_i o' k hx; simp at ho; subst ho; simp [hx, cellsAt, hn] at h
  ·rename_i o' es i k hx; simp at ho; subst ho; simp [hx, cellsAt, hn] at h
  ·simp at ho
 case lda n x =>
  simp only [evQ] at h
  split at ho
  ·rename_i o' k hx; simp at ho; subst ho; simp [hx, cellsAtN, cellsAt, hn] at h
  ·rename_i o' es i k hx; simp at ho; subst ho; simp [hx, cellsAtN, cellsAt, hn] at h
  ·simp at ho
 case s2a n es x =>
  simp only [evQ] at h
  split at ho
  ·rename_i o' k hx
   simp at ho; subst ho
   simp only [hx, hn] at h
   simp at h
  ·simp at ho
 case isl es x i =>
  simp only [evQ] at h
  split at ho
  ·rename_i o' k hx
   simp at ho; subst ho
   simp only [hx, hn] at h
   replace h := bind_some' h; obtain ⟨iv, _, h⟩ := h
   replace h := bind_some' h; obtain ⟨n, _, h⟩ := h
   simp at h
  ·simp at ho
 case mget rs zq x k =>
  simp only [evQ] at h
  split at ho
  ·rename_i o' hx; simp at ho; subst ho; simp [hx, mpOf, hn] at h
  ·simp at ho
 case b2s x =>
  simp only [evQ] at h
  split at ho
  ·rename_i o' k hx; simp at ho; subst ho; simp [hx, elems2, elemsOf, hn] at h
  ·rename_i o' k l hx; simp at ho; subst ho; simp [hx, elems2, hn] at h
  ·simp at ho
inductive MOp where
 | new (rs : List (Nat × IntKind))
 | len
 | ent (rs : List (Nat × IntKind)) (zq : IntKind)
 | sto
 deriving Inhabited
inductive EK where
 | q (q : QOp)
 | sto (n : Nat) (p x : Opd)
 | app (ty : TypeId) (es bytes : Nat) (s x : Opd)
 | cpy (es : Nat) (d s : Opd)
 | call (f : FuncId) (args : List Opd)
 | clo (x : Opd) (args : List Opd)
 | nild (neg : Bool) (x : Opd)
 | mrk (x : Opd)
 | mp (k : MOp) (xs : List Opd)
 | fz (k : EK)
 | bad
 deriving Inhabited
structure EOp where
 i : Nat
 dst : Option Nat
 gd : Option (Nat × Bool)
 k : EK
 uz : List Nat
 deriving Inhabited
def EK.quiet : EK → Bool
 | .q _ => true
 | _ => false
def EK.opds : EK → List Opd
 | .q qq => qq.opds
 | .sto _ p x => [p, x]
 | .app _ _ _ s x => [s, x]
 | .cpy _ d s => [d, s]
 | .call _ args => args
 | .clo x args => x :: args
 | .nild _ x | .mrk x => [x]
 | .mp _ xs => xs
 | .fz k => k.opds
 | .bad => []
def EOp.opds (e : EOp) : List Opd := (match e.gd with | some (t, _) => [Opd.t t] | none => []) ++ e.k.opds
def EK.looks (k : EK) (T : List EV) : List Nat :=
 match k with
 | .q qq => qq.looks T
 | _ => []
def setD (T : List EV) : Option Nat → EV → List EV
 | none, _ => T
 | some d, v => T.set d v
def gdOK (gd : Option (Nat × Bool)) (T : List EV) : Option Bool :=
 match gd with
 | none => some true
 | some (t, want) => match nth T t with
  | .v (.c (.fz (.lit (.bool b)))) => some (b == want)
  | .tup [] => some false
  | _ => none
def Wok (lg : List (Nat × List Nat)) (uz : List Nat) (i : Nat) : Prop := ∀ p ∈ lg, p.1 ∈ uz → i ∉ p.2
def refsAt (H : Nat → Option EO) (o : Nat) : List Nat :=
 match H o with
 | some x => refsO x
 | none => []
def stepR (H : Nat → Option EO) (l : List Nat) : List Nat := l ++ l.flatMap (refsAt H)
def reach (H : Nat → Option EO) (l : List Nat) : List Nat := stepR H (stepR H (stepR H l))
def ECallAt (P : Program) (f : FuncId) (args : List EV) (H : Nat → Option EO) (base : Nat) (ok : Nat → Prop) (K : EV → (Nat → Option EO) → Prop) : Prop :=
 ∃ ids args' Hc post, conArgs H ids args = some args' ∧ objsIn H ids ids = some Hc ∧ ids.Nodup ∧ (∀ i ∈ ids, i ∈ reach H (args.flatMap refsV)) ∧ (∀ i ∈ ids, ok i ∨ ∀ y H', post y H' → after H ids base H' i = H i) ∧ ECalls P f args' Hc post ∧
  ∀ y H', post y H' → ((args.flatMap (fzV ids) = [] ∨ (noSlV y = true ∧ ∀ x, some x ∈ H' → noSlO x = true)) ∧ H'.length ≤ ids.length + 16) ∧ K (renV (rnm ids base) y) (after H ids base H')
def bodyOK (P : Program) (f : FuncId) : Bool :=
 match P.funcs[f]? with
 | some fn => fn.body.isSome && fn.name != "runtime.NumGoroutine"
 | none => false
def nilF : FV → Option Nat
 | .sl _ xs => some xs.length
 | .lit (.slice none 0 0) => some 0
 | _ => none
def nilLen (H : Nat → Option EO) : EC → Option Nat
 | .fz x => nilF x
 | .row o len => match H o with
  | some (.row _ _ _) => some len
  | _ => none
 | _ => none
def rowOf (H : Nat → Option EO) : EC → Option (Nat × List (List FV))
 | .row o len => match H o with
  | some (.row _ es xs) => if es = 1 ∧ len = xs.length ∧ 0 < len then some (o, xs) else none
  | _ => none
 | _ => none
def isNil : EC → Bool
 | .fz (.lit _) => true
 | _ => false
def opM (_ : Program) (k : MOp) (xs : List Opd) (id : Nat) (ok : Nat → Prop) (K : EV → (Nat → Option EO) → Prop) (T : List EV) (H : Nat → Option EO) : Prop :=
 match k, xs with
 | .new rs, [] => K (.v (.c (.mp id))) (upd H id (some (.mp rs [])))
 | .len, [x] => match (asC (ev T x)).bind (mpOf H) with
  | some r => K (.lit (.int .i64 (r.2.2.length : Int))) H
  | none => False
 | .ent rs zq, [x, k] => match (asC (ev T x)).bind (mpOf H), (asAg (ev T k)).bind (litK (unrle rs)) with
  | some r, some ns => ok r.1 ∧ r.2.1 = rs ∧ K (.tup [.c (.fz (.lit (getM (.int zq 0) ns r.2.2))), .c (.fz (.lit (.int .i64 (idxM ns r.2.2 : Int))))]) (upd H r.1 (some (.mp rs (entM (.int zq 0) ns r.2.2))))
  | _, _ => False
 | .sto, [x, s, v] => match (asC (ev T x)).bind (mpOf H), (asLit (ev T s)).bind isNum, asLit (ev T v) with
  | some r, some n, some u => ok r.1 ∧ (0 ≤ n ∧ n.toNat < r.2.2.length) ∧ K (.tup []) (upd H r.1 (some (.mp r.2.1 (putM n.toNat u r.2.2))))
  | _, _, _ => False
 | _, _ => False
def opK0 (P : Program) (k : EK) (id : Nat) (ok : Nat → Prop) (K : EV → (Nat → Option EO) → Prop) (T : List EV) (H : Nat → Option EO) : Prop :=
 match k with
 | .q q => match evQ q T H id with
  | some (v, ob) => K v (addO H id ob)
  | none => False
 | .sto n p x => match asC (ev T p), asCells (ev T x) with
  | some pc, some cs => match stoAt H pc cs with
   | some (i, ob) => cs.length = n ∧ ok i ∧ K (.tup []) (upd H i (some ob))
   | none => False
  | _, _ => False
 | .app ty es bytes s x => match asC (ev T s), asC (ev T x) with
  | some sc, some xc => match baseOf H ty es sc, elems2 H es xc with
   | some (old, xs), some ys => ((slcE sc = true → ys ≠ []) ∧ xs.length + ys.length ≤ 9223372036854775807 ∧ (xs.length + ys.length) * bytes ≤ 140737488355328) ∧ (∀ o, old = some o → ok o) ∧
     K (.v (.c (.row id (xs.length + ys.length)))) (upd (dropO H old) id (some (.row ty es (xs ++ ys))))
   | _, _ => False
  | _, _ => False
 | .cpy es d s => match asC (ev T d), asC (ev T s) with
  | some dc, some xc => match elems2 H es xc with
   | some ys => match cpyAt H es dc ys with
    | some (i, ob, n) => ok i ∧ K (.lit (.int .i64 (n : Int))) (upd H i (some ob))
    | none => False
   | none => False
  | _, _ => False
 | .call f args => ECallAt P f (args.map (ev T)) H id ok K
 | .clo x args => match asC (ev T x) with
  | some (.clo f caps) => bodyOK P f = true ∧ ECallAt P f (args.map (ev T) ++ caps.map fun p => .v (.c (.ptr p.1 p.2))) H id ok K
  | _ => False
 | .nild neg x => match asC (ev T x) with
  | some c => match nilLen H c with
   | some n => (n = 0 → K (.lit (.bool !neg)) H) ∧ (isNil c = false → K (.lit (.bool neg)) H)
   | none => False
  | none => False
 | .mrk x => match asC (ev T x) with
  | some c => match rowOf H c with
   | some (o, xs) => ok o ∧ K (.v (.c (.fz (.sl 1 xs)))) (upd H o none)
   | none => False
  | none => False
 | .mp mk xs => opM P mk xs id ok K T H
 | .fz _ => False
 | .bad => False
def rowsE : EC → List Nat
 | .row o _ => [o]
 | _ => []
def rowsV : EV → List Nat
 | .v (.c x) => rowsE x
 | .v (.agg cs) => cs.flatMap rowsE
 | _ => []
def isRow (H : Nat → Option EO) (o : Nat) : Bool := match H o with
 | some (.row _ _ _) => true
 | _ => false
def dataK (k : EK) (T : List EV) : List EV :=
 match k with
 | .q (.bsl _ _ _ ps) => ps.map fun p => ev T p.2
 | .sto _ p x => match asC (ev T p) with
  | some (.eptr _ _ _ _) => [ev T x]
  | _ => []
 | _ => []
def deadK (k : EK) (T : List EV) (H : Nat → Option EO) : List Nat := ((dataK k T).flatMap rowsV).filter (isRow H)
def fzM (H : Nat → Option EO) (d : List Nat) : EC → EC
 | .row o len => if o ∈ d then match H o with
   | some (.row _ es xs) => .fz (.sl es (xs.take len))
   | _ => .row o len
  else .row o len
 | c => c
def fzMT (H : Nat → Option EO) (d : List Nat) : TV → TV
 | .c x => .c (fzM H d x)
 | .agg cs => .agg (cs.map (fzM H d))
def fzMV (H : Nat → Option EO) (d : List Nat) : EV → EV
 | .v t => .v (fzMT H d t)
 | .tup ts => .tup (ts.map (fzMT H d))
 | .any => .any
def rmv (H : Nat → Option EO) (d : List Nat) : Nat → Option EO := fun o => if o ∈ d then none else H o
def opK (P : Program) (k : EK) (id : Nat) (ok : Nat → Prop) (K : EV → (Nat → Option EO) → Prop) (T : List EV) (H : Nat → Option EO) : Prop :=
 match k with
 | .fz k => (∀ o ∈ deadK k T H, ok o) ∧ opK0 P k id ok K (T.map (fzMV H (deadK k T H))) (rmv H (deadK k T H))
 | k => opK0 P k id ok K T H
def opT (P : Program) (n : Nat) (e : EOp) (lg : List (Nat × List Nat)) (K : List EV → (Nat → Option EO) → Prop) (T : List EV) (H : Nat → Option EO) : Prop :=
 match gdOK e.gd T with
 | none => False
 | some false => K (setD T e.dst (.tup [])) H
 | some true => opK P e.k (n + 16 * e.i) (Wok lg e.uz) (fun v H' => K (setD T e.dst v) H') T H
def chain (P : Program) (n : Nat) : List EOp → List (Nat × List Nat) → (List EV → (Nat → Option EO) → Prop) → List EV → (Nat → Option EO) → Prop
 | [], _, K, T, H => K T H
 | e :: r, lg, K, T, H => opT P n e lg (fun T' H' => chain P n r ((e.i, e.k.looks T) :: lg) K T' H') T H
theorem ECallAt.mono {P : Program} {f : FuncId} {args : List EV} {H : Nat → Option EO} {base : Nat} {ok ok' : Nat → Prop} {K K' : EV → (Nat → Option EO) → Prop} (ho : ∀ i, ok i → ok' i) (hK : ∀ v H, K v H → K' v H) (h : ECallAt P f args H base ok K) : ECallAt P f args H base ok' K' :=
 let ⟨ids, args', Hc, post, h1, h2, h3, h4, h5, h6, h7⟩ := h
 ⟨ids, args', Hc, post, h1, h2, h3, h4, fun i hi => (h5 i hi).imp (ho i) id, h6, fun y H' hp => ⟨(h7 y H' hp).1, hK _ _ (h7 y H' hp).2⟩⟩
theorem opK0.mono {P : Program} {k : EK} {id : Nat} {ok ok' : Nat → Prop} {K K' : EV → (Nat → Option EO) → Prop} {T : List EV} {H : Nat → Option EO} (ho : ∀ i, ok i → ok' i) (hK : ∀ v H, K v H → K' v H) (h : opK0 P k id ok K T H) : opK0 P k id ok' K' T H := by
 cases k <;> simp only [opK0] at h ⊢
 case q q =>
  split at h
  ·exact hK _ _ h
  ·exact h
 case sto n p x =>
  split at h
  ·split at h
   ·exact ⟨h.1, ho _ h.2.1, hK _ _ h.2.2⟩
   ·exact h
  ·exact h
 case app ty es bytes s x =>
  split at h
  ·split at h
   ·exact ⟨h.1, fun o e => ho _ (h.2.1 o e), hK _ _ h.2.2⟩
   ·exact h
  ·exact h
 case cpy es d s =>
  split at h
  ·split at h
   ·split at h
    ·exact ⟨ho _ h.1, hK _ _ h.2⟩
    ·exact h
   ·exact h
  ·exact h
 case call f args => exact ECallAt.mono ho hK h
 case clo x args =>
  split at h
  ·exact ⟨h.1, ECallAt.mono ho hK h.2⟩
  ·exact h
 case nild neg x =>
  split at h
  ·split at h
   ·exact ⟨fun e => hK _ _ (h.1 e), fun e => hK _ _ (h.2 e)⟩
   ·exact h
  ·exact h
 case mrk x =>
  split at h
  ·split at h
   ·exact ⟨ho _ h.1, hK _ _ h.2⟩
   ·exact h
  ·exact h
 case mp mk xs =>
  unfold opM at h ⊢
  split at h
  ·exact hK _ _ h
  ·split at h
   ·exact hK _ _ h
   ·exact h
  ·split at h
   ·exact ⟨ho _ h.1, h.2.1, hK _ _ h.2.2⟩
   ·exact h
  ·split at h
   ·exact ⟨ho _ h.1, h.2.1, hK _ _ h.2.2⟩
   ·exact h
  ·exact h
theorem opK.mono {P : Program} {k : EK} {id : Nat} {ok ok' : Nat → Prop} {K K' : EV → (Nat → Option EO) → Prop} {T : List EV} {H : Nat → Option EO} (ho : ∀ i, ok i → ok' i) (hK : ∀ v H, K v H → K' v H) (h : opK P k id ok K T H) : opK P k id ok' K' T H := by
 cases k with
 | fz k => exact ⟨fun o hm => ho o (h.1 o hm), opK0.mono ho hK h.2⟩
 | _ => simp only [opK] at h ⊢; exact opK0.mono ho hK h
theorem opT.mono {P : Program} {n : Nat} {e : EOp} {lg lg' : List (Nat × List Nat)} {K K' : List EV → (Nat → Option EO) → Prop} {T : List EV} {H : Nat → Option EO} (hl : ∀ p ∈ lg', p ∈ lg) (hK : ∀ T H, K T H → K' T H) (h : opT P n e lg K T H) : opT P n e lg' K' T H := by
 unfold opT at h ⊢
 split at h
 ·exact h
 ·exact hK _ _ h
 ·exact opK.mono (fun i hi p hp => hi p (hl p hp)) (fun _ _ => hK _ _) h
theorem chain.mono {P : Program} {n : Nat} {K K' : List EV → (Nat → Option EO) → Prop} (hK : ∀ T H, K T H → K' T H) : ∀ {l : List EOp} {lg lg' : List (Nat × List Nat)} {T : List EV} {H : Nat → Option EO}, (∀ p ∈ lg', p ∈ lg) → chain P n l lg K T H → chain P n l lg' K' T H
 | [], _, _, _, _, _, h => hK _ _ h
 | e :: r, lg, lg', T, H, hl, h => opT.mono hl (fun T' H' h' => chain.mono hK (l := r) (by
   intro p hp
   rcases List.mem_cons.1 hp with rfl | hp
   ·exact List.mem_cons_self ..
   ·exact List.mem_cons_of_mem _ (hl p hp)) h') h
@[simp] def xM (i d s : Nat) : EOp := ⟨i, some d, none, .q (.mov (.t s)), []⟩
@[simp] def xQ (i d : Nat) (q : QOp) : EOp := ⟨i, some d, none, .q q, []⟩
@[simp] def xO (i d : Nat) (k : EK) : EOp := ⟨i, some d, none, k, []⟩
@[simp] def xN (i : Nat) (k : EK) : EOp := ⟨i, none, none, k, []⟩
@[simp] def xG (i d g : Nat) (b : Bool) (q : QOp) : EOp := ⟨i, some d, some (g, b), .q q, []⟩
@[simp] def xL (i d s : Nat) : EOp := ⟨i, some d, none, .q (.ldc (.t s)), []⟩
@[simp] def xF (i d f s : Nat) : EOp := ⟨i, some d, none, .q (.fad f (.t s)), []⟩
@[simp] def xD (i d f s : Nat) : EOp := ⟨i, some d, none, .q (.lda f (.t s)), []⟩
@[simp] def xI (i d f a b : Nat) : EOp := ⟨i, some d, none, .q (.isl f (.t a) (.t b)), []⟩
@[simp] def xE (i d s : Nat) : EOp := ⟨i, some d, none, .q (.len (.t s)), []⟩
@[simp] def xX (i d f s : Nat) : EOp := ⟨i, some d, none, .q (.ext f (.t s)), []⟩
@[simp] def xW (i d f s : Nat) : EOp := ⟨i, some d, none, .q (.box f (.t s)), []⟩
@[simp] def xC (i d : Nat) (n : Int) : EOp := ⟨i, some d, none, .q (.mov (.k (.int .i64 n))), []⟩
@[simp] def xP (i d a b : Nat) : EOp := ⟨i, some d, none, .q (.pick (.t a) (.k (.bool true)) (.t b)), []⟩
@[simp] def xR (i d a b : Nat) : EOp := ⟨i, some d, none, .q (.pick (.t a) (.t b) (.k (.bool false))), []⟩
@[simp] def xb (i d : Nat) (o : BinOp) (a b : Nat) : EOp := ⟨i, some d, none, .q (.bin o (.t a) (.t b)), []⟩
@[simp] def xc (i d : Nat) (o : BinOp) (a : Nat) (n : Int) : EOp := ⟨i, some d, none, .q (.bin o (.t a) (.k (.int .i64 n))), []⟩
@[simp] def yL (i d g : Nat) (b : Bool) (s : Nat) : EOp := ⟨i, some d, some (g, b), .q (.ldc (.t s)), []⟩
@[simp] def yF (i d g : Nat) (b : Bool) (f s : Nat) : EOp := ⟨i, some d, some (g, b), .q (.fad f (.t s)), []⟩
@[simp] def yM (i d g : Nat) (b : Bool) (s : Nat) : EOp := ⟨i, some d, some (g, b), .q (.mov (.t s)), []⟩
end Go.EW
