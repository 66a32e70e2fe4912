/- Quiet E-operations, last part, and all of them in one. -/
import Derived.Test.YtejjhgdnmknejaaEwG
import Derived.IntWalk
import Derived.Laws.StructEq
namespace Go.EW
open Go

theorem agg_int {P : Program} {e : TypeId} {k : IntKind} (he : P.underlying e = some (.int k)) : agg? P e = some false := by simp [agg?, he]
theorem run_eq_arr_aux {P : Program} (d : Nat) (e : TypeId) (k : IntKind) (xs ys : List Int) (he : P.underlying e = some (.int k)) (hl : ys.length = xs.length) (w : World) :
    ∀ (n i : Nat), i + n = xs.length → (forIn (m := Sem) (List.range' i n) ((none, ()) : Option Bool × Unit) fun i __s => do
            let __do_lift ← part e (List.map (Value.int k) xs).toArray i
            let __do_lift_1 ← part e (List.map (Value.int k) ys).toArray i
            let __do_lift ← Op.equalIn (d + 1) e __do_lift __do_lift_1
            if __do_lift = false then pure (ForInStep.done (some false, ())) else pure (ForInStep.yield (none, ()))).run P w = .ok (if xs.drop i = ys.drop i then none else some false, ()) w
  | 0, i, h => by
    have h1 : xs.drop i = [] := List.drop_of_length_le (by omega)
    have h2 : ys.drop i = [] := List.drop_of_length_le (by omega)
    simp [h1, h2]
  | n + 1, i, h => by
    have hx : i < xs.length := by omega
    have hy : i < ys.length := by omega
    have ih := run_eq_arr_aux d e k xs ys he hl w n (i + 1) (by omega)
    rw [List.range'_succ]
    have px : (part e (List.map (Value.int k) xs).toArray i).run P w = .ok (.int k xs[i]) w := by simp [part, agg_false (agg_int he), hx]
    have py : (part e (List.map (Value.int k) ys).toArray i).run P w = .ok (.int k ys[i]) w := by simp [part, agg_false (agg_int he), hy]
    have hxd : xs.drop i = xs[i] :: xs.drop (i + 1) := List.drop_eq_getElem_cons hx
    have hyd : ys.drop i = ys[i] :: ys.drop (i + 1) := List.drop_eq_getElem_cons hy
    rw [hxd, hyd]
    simp only [List.forIn_cons, Sem.run_bind, px, py, Result.andThen_ok, run_equalIn_int w d e k k _ _ he]
    by_cases heq : xs[i] = ys[i]
    · simp only [heq, beq_self_eq_true, Bool.true_eq_false, if_false, Sem.run_pure, Result.andThen_ok, List.cons.injEq, true_and]
      exact ih
    · have : (xs[i] == ys[i]) = false := by simpa using heq
      rw [if_neg (fun h => heq (List.cons.inj h).1)]
      simp [this]

theorem run_eq_arr {P : Program} (d : Nat) (t e : TypeId) (k : IntKind) (xs ys : List Int) (ht : P.underlying t = some (.array xs.length e)) (he : P.underlying e = some (.int k)) (hs : sz P e = some 1) (hl : ys.length = xs.length) (w : World) :
    (Op.equalIn (d + 2) t (.agg (xs.map (Value.int k)).toArray) (.agg (ys.map (Value.int k)).toArray)).run P w = .ok (decide (xs = ys)) w := by
  unfold Op.equalIn
  simp only [Sem.run_bind, run_underlying ht, Result.andThen_ok, run_sz hs]
  simp only [Std.Legacy.Range.forIn_eq_forIn_range', Nat.mul_one, Bool.not_eq_true']
  have := run_eq_arr_aux d e k xs ys he hl w xs.length 0 (by omega)
  simp only [Std.Legacy.Range.size, Nat.sub_zero, Nat.add_sub_cancel, Nat.div_one]
  rw [this]
  simp only [List.drop_zero, Result.andThen_ok]
  by_cases h : xs = ys
  · simp [h]
  · simp [h]

theorem run_eq_s2 {P : Program} (d : Nat) (t e : TypeId) (fs : Array Field) (f g : Field) (k1 k2 : IntKind) (a b : Int) (xs ys : List Int) (ht : P.underlying t = some (.struct fs)) (hfs : fs.toList = [f, g])
    (hf : P.underlying f.type = some (.int k1)) (hg : P.underlying g.type = some (.array xs.length e)) (he : P.underlying e = some (.int k2)) (h0 : f.offset = 0) (h1 : g.offset = 1) (hn1 : f.name ≠ "_") (hn2 : g.name ≠ "_")
    (hsg : sz P g.type = some xs.length) (hs : sz P e = some 1) (hst : P.stoodInHeld t = false) (hl : ys.length = xs.length) (w : World) :
    (Op.equalIn (d + 3) t (.agg (Value.int k1 a :: xs.map (Value.int k2)).toArray) (.agg (Value.int k1 b :: ys.map (Value.int k2)).toArray)).run P w = .ok (decide (a = b ∧ xs = ys)) w := by
  have hft : P.fieldsOf t = fs := by simp [Program.fieldsOf, ht]
  rw [run_equalIn_struct w (d + 2) t _ _ (by rw [hft]; exact ht) hst, hft, hfs]
  have hag : agg? P g.type = some true := by simp [agg?, hg]
  have p1 : ∀ (c : Int) (zs : List Int), (part f.type (Value.int k1 c :: zs.map (Value.int k2)).toArray f.offset).run P w = .ok (.int k1 c) w := by
    intro c zs
    simp [part, agg_false (agg_int hf), h0]
  have p2 : ∀ (c : Int) (zs : List Int), zs.length = xs.length → (part g.type (Value.int k1 c :: zs.map (Value.int k2)).toArray g.offset).run P w = .ok (.agg (zs.map (Value.int k2)).toArray) w := by
    intro c zs hz
    simp only [part, Sem.run_bind, agg_true hag, Result.andThen_ok, if_true, run_sz hsg, h1, Sem.run_pure]
    congr 2
    apply Array.ext'
    simp [← hz, List.take_of_length_le]
  have q1 := run_equalIn_int (P := P) w (d + 1) f.type k1 k1 a b hf
  have q2 := run_eq_arr (P := P) d g.type e k2 xs ys hg he hs hl w
  have p2x := p2 a xs rfl
  have p2y := p2 b ys hl
  simp only [Op.eqFields, if_pos hn1, if_pos hn2, Sem.run_bind, p1, Result.andThen_ok, q1]
  by_cases hab : a = b
  · subst hab
    simp only [beq_self_eq_true, Bool.not_true, Bool.false_eq_true, if_false, Sem.run_bind, p2x, p2y, Result.andThen_ok, q2, true_and]
    by_cases hxy : xs = ys
    · subst hxy
      simp
    · simp [hxy]
  · simp [hab]

section
variable {P : Program} {o : Oper} {w0 : World} {m : Nat} {ρ0 : Nat → Value} {Φ0 : Nat → Prop} {H : Nat → Option EO} {X : Cx} {T : List EV} {a : Act} {id : Nat}

theorem lenOf_le {c : EC} {v : Value} (hv : VR X c v) {len : Nat} (h : lenOf c = some len) :
    ∃ ad cap, v = .slice ad len cap ∧ len ≤ cap := by
  unfold lenOf at h
  split at h
  · obtain rfl := Option.some.inj h
    have hv' : FR X.Φ X.w _ v := hv
    cases hv' with
    | sl es xs b off cap vs _ _ _ _ hcap _ _ => exact ⟨_, cap, rfl, hcap⟩
    | emp es ad cap => exact ⟨ad, cap, rfl, Nat.zero_le _⟩
  · obtain rfl := Option.some.inj h; cases hv; exact ⟨none, 0, rfl, Nat.le_refl _⟩
  · obtain rfl := Option.some.inj h
    obtain ⟨_, ad, n, cap, _, h1, h2, rfl⟩ := hv
    exact ⟨ad, cap, rfl, by omega⟩
  · obtain rfl := Option.some.inj h
    obtain ⟨_, b, _, cap, h1, rfl⟩ := hv
    exact ⟨_, cap, rfl, h1⟩
  · obtain rfl := Option.some.inj h
    obtain ⟨_, a, n, c, cap, _, h1, rfl⟩ := hv
    exact ⟨_, cap, rfl, h1⟩
  · simp at h

theorem run_slice {w : World} {t e : TypeId} {es : Nat} {x : Operand} {lo hi : Option Operand} (ho : o.op = .slice t x lo hi none) (ht : P.underlying t = some (.slice e)) (hes : sz P e = some es) (ha : All2 (VV X) T a.tmps.toList)
    {l h len cap : Nat} {ad : Option Addr} (h1 : bnd T 0 (lo.map opd) = some l) (h2 : bnd T len (hi.map opd) = some h) (hlh : l ≤ h) (hlen : h ≤ len) (hcap : len ≤ cap) (hx : a.eval x = .slice ad len cap) :
    (execOp a.eval o).run P w = .ok (.value (.slice (if cap = l then ad else ad.map (·.add (l * es))) (h - l) (cap - l))) w := by
  simp [execOp, ho, Instr.sliceAt, Instr.slice, run_underlying ht, hx, run_bounds ha true h1 h2 hlh hlen hcap, run_sz hes]

theorem g_ssl {t e : TypeId} {es : Nat} {x : Operand} {lo hi : Option Operand} (ho : o.op = .slice t x lo hi none) (ht : P.underlying t = some (.slice e)) (hes : sz P e = some es) (r : Rel w0 m ρ0 Φ0 H X) (ha : All2 (VV X) T a.tmps.toList) {v : EV} {ob : Option EO} (h : evQ (.ssl es (opd x) (lo.map opd) (hi.map opd)) T H id = some (v, ob)) : Good P o a w0 m ρ0 Φ0 H X id v ob := by
  simp only [evQ] at h
  replace h := bind_some' h; obtain ⟨c, h1, h⟩ := h
  replace h := bind_some' h; obtain ⟨len, h2, h⟩ := h
  replace h := bind_some' h; obtain ⟨l, h3, h⟩ := h
  replace h := bind_some' h; obtain ⟨hh, h4, h⟩ := h
  have hv := VV_c h1 (VV_ev ha x)
  obtain ⟨ad, cap, e1, hcap⟩ := lenOf_le hv h2
  split at h
  · rename_i hb
    obtain ⟨hlh, hhl⟩ := hb
    have run := run_slice (P := P) (w := X.w) (X := X) ho ht hes ha h3 h4 hlh hhl hcap e1
    split at h
    · rename_i es' xs
      split at h
      · rename_i he
        subst he
        simp only [Option.some.injEq, Prod.mk.injEq] at h
        obtain ⟨rfl, rfl⟩ := h
        simp only [lenOf, Option.some.injEq] at h2
        have hv' : FR X.Φ X.w (.sl es' xs) (a.eval x) := hv
        rw [e1] at hv'
        refine .pure r run ?_
        generalize hxs : ((xs.take hh).drop l) = ys
        have hys : ys.length = hh - l := by rw [← hxs]; simp; omega
        show FR X.Φ X.w (.sl es' ys) _
        by_cases hz : hh - l = 0
        · have : ys = [] := List.eq_nil_of_length_eq_zero (by omega)
          rw [this, hz]
          exact .emp es' _ _
        · rw [if_neg (by omega)]
          cases hv' with
          | emp => simp at hcap h2; omega
          | sl _ _ b off cap vs hΦ h0 hl hn _ hcell hfr =>
            have hlt : ∀ x ∈ xs.take hh, x.length = es' := fun x hx => hl x (List.mem_of_mem_take hx)
            have hly : ∀ x ∈ ys, x.length = es' := fun x hx => hlt x (List.mem_of_mem_drop (hxs ▸ hx))
            have key := FR.sl (Φ := X.Φ) (w := X.w) es' ys b (off + l * es') (cap - l) ((vs.take (hh * es')).drop (l * es')) hΦ h0 hly ?_ (by omega) ?_ ?_
            · rw [hys] at key
              simpa [Addr.add_lit] using key
            · rw [hys]
              have : hh * es' ≤ vs.length := by rw [hn]; exact Nat.mul_le_mul_right _ (by omega)
              simp only [List.length_drop, List.length_take, Nat.sub_mul]
              omega
            · intro j u hu
              rw [List.getElem?_drop, List.getElem?_take] at hu
              split at hu
              · rw [Nat.add_assoc]; exact hcell _ u hu
              · simp at hu
            · intro j x' u hx' hu
              rw [← hxs, flatten_drop hlt, flatten_take hl, List.getElem?_drop, List.getElem?_take] at hx'
              rw [List.getElem?_drop, List.getElem?_take] at hu
              split at hu
              · rename_i hj; rw [if_pos hj] at hx'; exact hfr _ x' u hx' hu
              · simp at hu
      · simp at h
    · simp only [Option.some.injEq, Prod.mk.injEq] at h
      obtain ⟨rfl, rfl⟩ := h
      simp only [lenOf, Option.some.injEq] at h2
      have hv' : FR X.Φ X.w (.lit (.slice none 0 0)) (a.eval x) := hv
      rw [e1] at hv'
      cases hv'
      obtain rfl : l = 0 := by omega
      obtain rfl : hh = 0 := by omega
      refine .pure r run ?_
      exact FR.lit _ rfl
    · split at h
      · rename_i hl0
        subst hl0
        simp only [Option.some.injEq, Prod.mk.injEq] at h
        obtain ⟨rfl, rfl⟩ := h
        simp only [lenOf, Option.some.injEq] at h2
        obtain ⟨hu, ad', n, cap', hρ, q1, q2, q3⟩ := hv
        rw [e1] at q3
        simp only [Value.slice.injEq] at q3
        obtain ⟨rfl, rfl, rfl⟩ := q3
        refine .pure r run ⟨hu, ad, n, cap, hρ, by omega, by omega, ?_⟩
        simp only [Nat.sub_zero, Nat.zero_mul]
        split
        · rfl
        · cases ad <;> simp [Addr.add_zero']
      · split at h
        · rename_i hes1
          obtain ⟨rfl, hl⟩ := hes1
          simp only [Option.some.injEq, Prod.mk.injEq] at h
          obtain ⟨rfl, rfl⟩ := h
          simp only [lenOf, Option.some.injEq] at h2
          obtain ⟨hu, ad', n, cap', hρ, q1, q2, q3⟩ := hv
          rw [e1] at q3
          simp only [Value.slice.injEq] at q3
          obtain ⟨rfl, rfl, rfl⟩ := q3
          refine .pure r run ⟨hu, ad, n, cap, cap - l, hρ, by omega, ?_⟩
          rw [if_neg (by omega)]
          simp
        · simp at h
    · split at h
      · rename_i hes1
        obtain ⟨rfl, hl⟩ := hes1
        simp only [Option.some.injEq, Prod.mk.injEq] at h
        obtain ⟨rfl, rfl⟩ := h
        obtain ⟨hu, b, hρ, cap', q1, q3⟩ := hv
        rw [e1] at q3
        simp only [Value.slice.injEq] at q3
        obtain ⟨rfl, _, rfl⟩ := q3
        refine .pure r run ⟨hu, b, hρ, cap - l, by omega, ?_⟩
        rcases hl with hl | rfl
        · rw [if_neg (by omega)]
          simp [Addr.add_lit]
        · simp [Addr.add_lit]
      · simp at h
    · simp at h
  · simp at h

theorem g_sst {t : TypeId} {x : Operand} {lo hi : Option Operand} (ho : o.op = .slice t x lo hi none) (ht : P.underlying t = some .string) (r : Rel w0 m ρ0 Φ0 H X) (ha : All2 (VV X) T a.tmps.toList) {v : EV} {ob : Option EO} (h : evQ (.sst (opd x) (lo.map opd) (hi.map opd)) T H id = some (v, ob)) : Good P o a w0 m ρ0 Φ0 H X id v ob := by
  simp only [evQ] at h
  split at h
  · rename_i s hs
    replace h := bind_some' h; obtain ⟨l, h3, h⟩ := h
    replace h := bind_some' h; obtain ⟨hh, h4, h⟩ := h
    split at h
    · rename_i hb
      simp only [Option.some.injEq, Prod.mk.injEq] at h
      obtain ⟨rfl, rfl⟩ := h
      refine .pure r (val := .string (s.extract l hh)) ?_ (VV_mklit rfl)
      simp [execOp, ho, Instr.sliceAt, Instr.slice, run_underlying ht, VV_lit hs (VV_ev ha x), run_bounds (X := X) ha false h3 h4 hb.1 hb.2 (Nat.le_refl _)]
    · simp at h
  · simp at h

theorem g_sar {t e : TypeId} {len : Nat} {x : Operand} {lo hi : Option Operand} (ho : o.op = .slice t x lo hi none) (ht : P.underlying t = some (.array len e)) (hes : sz P e = some 1) (r : Rel w0 m ρ0 Φ0 H X) (ha : All2 (VV X) T a.tmps.toList) {v : EV} {ob : Option EO} (h : evQ (.sar len (opd x) (lo.map opd) (hi.map opd)) T H id = some (v, ob)) : Good P o a w0 m ρ0 Φ0 H X id v ob := by
  simp only [evQ] at h
  split at h
  · rename_i o' k h1
    replace h := bind_some' h; obtain ⟨l, h3, h⟩ := h
    replace h := bind_some' h; obtain ⟨hh, h4, h⟩ := h
    split at h
    · rename_i hb
      simp only [Option.some.injEq, Prod.mk.injEq] at h
      obtain ⟨rfl, rfl⟩ := h
      obtain ⟨hu, b, hρ, e1⟩ := VV_c h1 (VV_ev ha x)
      refine .pure r (val := .slice (some ⟨b, k + l, none⟩) (hh - l) (len - l)) ?_ ⟨hu, b, hρ, len - l, by omega, rfl⟩
      have : ¬ len = l := by omega
      simp [execOp, ho, Instr.sliceAt, run_underlying ht, e1, Instr.sureAddr, run_bounds (X := X) ha false h3 h4 hb.1 hb.2.1 (Nat.le_refl _), run_sz hes, this, Addr.add_lit]
    · simp at h
  · simp at h

theorem g_ext {x : Operand} {i : Nat} (ho : o.op = .extract x i) (r : Rel w0 m ρ0 Φ0 H X) (ha : All2 (VV X) T a.tmps.toList) {v : EV} {ob : Option EO} (h : evQ (.ext i (opd x)) T H id = some (v, ob)) : Good P o a w0 m ρ0 Φ0 H X id v ob := by
  simp only [evQ] at h
  split at h
  · rename_i ts h1
    replace h := map_some' h; obtain ⟨t, h2, h⟩ := h
    simp only [Prod.mk.injEq] at h
    obtain ⟨rfl, rfl⟩ := h
    have hv := VV_ev ha x
    rw [h1] at hv
    obtain ⟨vs, e1, hall⟩ := hv
    obtain ⟨u, hu, hr⟩ := hall.get h2
    refine .pure r (val := u) ?_ hr
    simp [execOp, ho, e1, Instr.extract, hu]
  · simp at h

theorem caps_spec (ha : All2 (VV X) T a.tmps.toList) : ∀ (xs : List Operand) (cs : List (Nat × Nat)), capsOf T (xs.map opd) = some cs →
    All2 (fun (p : Nat × Nat) u => X.U p.1 ∧ ∃ b, X.ρ p.1 = .pointer (some ⟨b, 0, none⟩) ∧ u = .pointer (some ⟨b, p.2, none⟩)) cs (xs.map a.eval)
  | [], cs, h => by simp [capsOf] at h; subst h; exact All2.nil
  | x :: r, cs, h => by
    simp only [List.map_cons, capsOf] at h
    split at h
    · rename_i o' k h1
      replace h := map_some' h; obtain ⟨cs', h2, rfl⟩ := h
      exact All2.cons (VV_c h1 (VV_ev ha x)) (caps_spec ha r cs' h2)
    · simp at h

theorem g_mkf {f : FuncId} {first caps : Array Operand} (ho : o.op = .makeFunc (.func f) first caps) (hf : first.size = 0) (r : Rel w0 m ρ0 Φ0 H X) (ha : All2 (VV X) T a.tmps.toList) {v : EV} {ob : Option EO} (h : evQ (.mkf f (caps.toList.map opd)) T H id = some (v, ob)) : Good P o a w0 m ρ0 Φ0 H X id v ob := by
  simp only [evQ] at h
  replace h := map_some' h; obtain ⟨cs, h1, h⟩ := h
  simp only [Prod.mk.injEq] at h
  obtain ⟨rfl, rfl⟩ := h
  have := caps_spec ha caps.toList cs h1
  refine .pure r (val := .func (.func f) #[] (caps.toList.map a.eval).toArray) ?_ ⟨_, rfl, this⟩
  have e2 : Array.map a.eval caps = (List.map a.eval caps.toList).toArray := by cases caps; simp
  simp [execOp, ho, Instr.makeFunc, arr_eq_nil hf, e2]

theorem g_mki {t : TypeId} {x : Operand} {d : TypeDesc} (ho : o.op = .makeInterface t x) (ht : P.underlying t = some d) (hd : ∀ ms, d ≠ .interface ms) (r : Rel w0 m ρ0 Φ0 H X) (ha : All2 (VV X) T a.tmps.toList) {v : EV} {ob : Option EO} (h : evQ (.mki t (opd x)) T H id = some (v, ob)) : Good P o a w0 m ρ0 Φ0 H X id v ob := by
  simp only [evQ] at h
  replace h := map_some' h; obtain ⟨u, h1, h⟩ := h
  simp only [Prod.mk.injEq] at h
  obtain ⟨rfl, rfl⟩ := h
  refine .pure r (val := .iface t u) ?_ (VV_mklit rfl)
  have e1 := VV_lit h1 (VV_ev ha x)
  simp only [execOp, ho, Instr.makeInterface, Sem.run_bind, run_underlying ht, Result.andThen_ok, e1]
  cases d <;> first | exact absurd rfl (hd _) | simp

theorem arr_one {α : Type} {xs : Array α} {x : α} (h : xs.toList = [x]) : xs = #[x] := by cases xs; simp_all

theorem g_len {x : Operand} {t e : TypeId} {ts : Array TypeId} {args : Array Operand} (ho : o.op = .call { callee := .builtin .len, args := args, argTypes := ts }) (hx : args.toList = [x]) (hts : ts.toList = [t]) (ht : P.underlying t = some (.slice e)) (r : Rel w0 m ρ0 Φ0 H X) (ha : All2 (VV X) T a.tmps.toList) {v : EV} {ob : Option EO} (h : evQ (.len (opd x)) T H id = some (v, ob)) : Good P o a w0 m ρ0 Φ0 H X id v ob := by
  obtain rfl := arr_one hx
  obtain rfl := arr_one hts
  simp only [evQ] at h
  replace h := bind_some' h; obtain ⟨c, h1, h⟩ := h
  replace h := map_some' h; obtain ⟨n, h2, h⟩ := h
  simp only [Prod.mk.injEq] at h
  obtain ⟨rfl, rfl⟩ := h
  have hv := VV_c h1 (VV_ev ha x)
  refine .pure r (val := .int .i64 n) ?_ (VV_mklit rfl)
  obtain ⟨ad, cap, e1, _⟩ := lenOf_le hv h2
  simp [execOp, ho, resolve, invoke, builtin, e1, Builtin.len_, run_underlying ht, goInt]

theorem g_lens {x : Operand} {t : TypeId} {ts : Array TypeId} {args : Array Operand} (ho : o.op = .call { callee := .builtin .len, args := args, argTypes := ts }) (hx : args.toList = [x]) (hts : ts.toList = [t]) (ht : P.underlying t = some .string) (r : Rel w0 m ρ0 Φ0 H X) (ha : All2 (VV X) T a.tmps.toList) {v : EV} {ob : Option EO} (h : evQ (.lens (opd x)) T H id = some (v, ob)) : Good P o a w0 m ρ0 Φ0 H X id v ob := by
  obtain rfl := arr_one hx
  obtain rfl := arr_one hts
  simp only [evQ] at h
  split at h
  · rename_i s hs
    simp only [Option.some.injEq, Prod.mk.injEq] at h
    obtain ⟨rfl, rfl⟩ := h
    refine .pure r (val := .int .i64 (s.size : Int)) ?_ (VV_mklit rfl)
    simp [execOp, ho, resolve, invoke, builtin, VV_lit hs (VV_ev ha x), Builtin.len_, run_underlying ht, goInt]
  · simp at h

theorem g_mks {t e : TypeId} {i : TypeInfo} {z : List Value} {l c : Operand} (ho : o.op = .makeSlice t l c) (ht : P.underlying t = some (.slice e)) (hi : P.info? e = some i) (hz : zer P e = some z) (hzl : z.length = i.size)
    (r : Rel w0 m ρ0 Φ0 H X) (ha : All2 (VV X) T a.tmps.toList) (hid : ¬ X.U id) (hm : m ≤ id) {v : EV} {ob : Option EO} (h : evQ (.mks e i.size i.bytes z (opd l) (opd c)) T H id = some (v, ob)) : Good P o a w0 m ρ0 Φ0 H X id v ob := by
  simp only [evQ] at h
  replace h := bind_some' h; obtain ⟨lv, h1, h⟩ := h
  replace h := bind_some' h; obtain ⟨ln, h2, h⟩ := h
  replace h := bind_some' h; obtain ⟨cv, h3, h⟩ := h
  replace h := bind_some' h; obtain ⟨cn, h4, h⟩ := h
  split at h
  case isFalse => simp at h
  rename_i hb
  obtain ⟨hl0, hlc, hby, hmx, hs0⟩ := hb
  simp only [Option.some.injEq, Prod.mk.injEq] at h
  obtain ⟨rfl, rfl⟩ := h
  obtain ⟨k1, e1⟩ := isNum_lit ha h1 h2
  obtain ⟨k2, e2⟩ := isNum_lit ha h3 h4
  obtain ⟨i', zv, hi', hzi, hzc, hone⟩ := zer_some hz
  obtain rfl : i' = i := Option.some.inj (hi'.symm.trans hi)
  have w1 : IntKind.i64.wrap ln = ln := IntWalk.i64_in _ (by omega)
  have w2 : IntKind.i64.wrap cn = cn := IntWalk.i64_in _ (by omega)
  have hcell : ∀ n : Nat, ((Array.range (n * i'.size)).map (fun j => zv.cells[j % zv.cells.size]!)).toList = (List.replicate n z).flatten := by
    intro n
    have := zeros_flat z i'.size hzl hs0 n
    rw [← hzc] at this ⊢
    simpa using this
  have big : ¬ ((i'.bytes : Int) * cn > 2 ^ 48) := by
    have : (i'.bytes : Int) * cn = cn * i'.bytes := Int.mul_comm _ _
    rw [this]; omega
  have run : (execOp a.eval o).run P X.w = .ok (.value (.slice (some ⟨X.w.heap.size, 0, none⟩) ln.toNat cn.toNat)) (X.w.alloc (.cells (List.replicate cn.toNat z).flatten.toArray e)) := by
    have hc1 : (decide (cn < 0) || decide ((i'.bytes : Int) * cn > 2 ^ 48)) = false := by
      simp only [Bool.or_eq_false_iff, decide_eq_false_iff_not]
      exact ⟨by omega, big⟩
    simp only [execOp, ho, Instr.makeSlice, Sem.run_bind, run_underlying ht, Result.andThen_ok, e1, e2, asInt, asIntOf, Sem.run_pure, typeInfo, run_program, hi, w1, w2]
    rw [if_neg (by rw [hc1]; simp; omega)]
    simp only [Sem.run_bind, run_askRoom, Result.andThen_ok, run_sz (P := P) (t := e) (n := i'.size) (by simp [sz, hi])]
    split
    · rename_i hz0
      have hc0 : cn.toNat = 0 := by
        rcases Nat.mul_eq_zero.1 hz0 with h' | h'
        · exact h'
        · omega
      simp [hc0, newRow, show (Array.range 0) = #[] from rfl]
    · simp only [Sem.run_bind, run_zeroValue hi hzi, Sem.run_pure, Result.andThen_ok]
      have := hcell cn.toNat
      have e3 : ((Array.range (cn.toNat * i'.size)).map (fun j => zv.cells[j % zv.cells.size]!)) = (List.replicate cn.toNat z).flatten.toArray := by
        rw [← this]
      rw [e3]
      simp [newRow]
  have hlenz : ∀ n : Nat, (List.replicate n z).flatten.length = n * i'.size := by
    intro n
    rw [flatten_length (es := i'.size) (by intro x hx; rw [(List.mem_replicate.1 hx).2]; exact hzl)]
    simp
  have hle : ln.toNat ≤ cn.toNat := by omega
  obtain ⟨r', l'⟩ := r.new (w' := X.w.alloc (.cells (List.replicate cn.toNat z).flatten.toArray e)) rfl rfl rfl (by simp) (fun b hb => heap_old _ _ _ hb) id hid hm (.row e i'.size (List.replicate ln.toNat (z.map FV.lit))) (.slice (some ⟨X.w.heap.size, 0, none⟩) ln.toNat cn.toNat)
    (by intro b hb'; simp [hb] at hb'; omega)
    ⟨hs0, by intro x hx; rw [(List.mem_replicate.1 hx).2]; simpa using hzl, (List.replicate ln.toNat z).flatten, by
      refine ⟨by simp [hlenz], .inr ⟨X.w.heap.size, cn.toNat, (List.replicate cn.toNat z).flatten.toArray, by simp, Nat.zero_le _, heap_new _ _, by simpa using hle, by unfold maxLen; omega, by simp [hlenz], ?_⟩⟩
      simp only [List.length_replicate]
      have : cn.toNat = ln.toNat + (cn.toNat - ln.toNat) := by omega
      rw [this, ← List.replicate_append_replicate, List.flatten_append]
      rw [List.take_left' (hlenz _)], by
      exact (replicate_flat (All2_flits (X := { U := fun o => X.U o ∨ o = id, ρ := upd X.ρ id (.slice (some ⟨X.w.heap.size, 0, none⟩) ln.toNat cn.toNat), Φ := X.Φ, w := X.w.alloc (.cells (List.replicate cn.toNat z).flatten.toArray e) }) hone) _)⟩
  refine ⟨_, _, run, r', l', ?_, ?_⟩
  · intro i; simp
  · exact ⟨.inr rfl, some ⟨X.w.heap.size, 0, none⟩, ln.toNat, cn.toNat, by simp [upd_same], Nat.le_refl _, hle, rfl⟩

theorem g_s2b {s d e : TypeId} {x : Operand} (ho : o.op = .convert s d x) (hs : P.underlying s = some .string) (hd : P.underlying d = some (.slice e)) (he : P.underlying e = some (.int .u8))
    (r : Rel w0 m ρ0 Φ0 H X) (ha : All2 (VV X) T a.tmps.toList) {v : EV} {ob : Option EO} (h : evQ (.s2b (opd x)) T H id = some (v, ob)) : Good P o a w0 m ρ0 Φ0 H X id v ob := by
  simp only [evQ] at h
  split at h
  case h_2 => simp at h
  rename_i s' hx
  simp only [Option.some.injEq, Prod.mk.injEq] at h
  obtain ⟨rfl, rfl⟩ := h
  have hold : ∀ b, b < X.w.heap.size → (Lib.bytesWorld X.w e s').heap[b]? = X.w.heap[b]? := fun b hb => Lib.bytesWorld_at_old X.w e s' b hb
  obtain ⟨r', l'⟩ := r.newFrozen (w' := Lib.bytesWorld X.w e s') rfl rfl rfl (by rw [Lib.bytesWorld_size]; omega) hold X.w.heap.size (Nat.le_refl _) (by rw [Lib.bytesWorld_size]; omega)
  refine ⟨.slice (some ⟨X.w.heap.size, 0, none⟩) s'.size (grownCap X.w s'.size 0 e), _, ?_, r', l', by simp, ?_⟩
  · simp only [execOp, ho, VV_lit hx (VV_ev ha x), Sem.run_bind, Lib.run_convert_string_bytes X.w s d e s' hs hd he, Result.andThen_ok, Sem.run_pure]
  · have hsz : (strB s').length = s'.size := by simp [strB]
    have hfl : (strB s').flatten = s'.data.toList.map fun b => FV.lit (.int .u8 b.toNat) := by
      unfold strB
      generalize s'.data.toList = l
      induction l with
      | nil => rfl
      | cons b t ih => simp only [List.map_cons, List.flatten_cons, ih]; rfl
    have := FR.sl (Φ := fun b => X.Φ b ∨ b = X.w.heap.size) (w := Lib.bytesWorld X.w e s') 1 (strB s') X.w.heap.size 0 (grownCap X.w s'.size 0 e) (s'.data.toList.map fun b => Value.int .u8 b.toNat) (.inr rfl) (by omega)
      (by intro x hx'; simp only [strB, List.mem_map] at hx'; obtain ⟨b, _, rfl⟩ := hx'; rfl) (by rw [hsz]; simp) (by rw [hsz]; exact grownCap_ge _ _ _ _)
      (by
        intro j u hu
        rw [List.getElem?_map] at hu
        obtain ⟨b, hb, rfl⟩ := map_some' hu
        have hj : j < s'.size := by
          have := lt_of_get hb
          simpa using this
        rw [Nat.zero_add, Lib.bytesWorld_cell _ _ _ _ hj]
        simp [List.getD, hb])
      (by
        intro j y u hy hu
        rw [hfl, List.getElem?_map] at hy
        rw [List.getElem?_map] at hu
        obtain ⟨b, hb, rfl⟩ := map_some' hy
        obtain ⟨b', hb', rfl⟩ := map_some' hu
        obtain rfl := Option.some.inj (hb.symm.trans hb')
        exact FR.lit _ rfl)
    rw [hsz] at this
    exact this

theorem elems_spec (r : Rel w0 m ρ0 Φ0 H X) {es : Nat} {c : EC} {v : Value} (hv : VR X c v) {xs : List (List FV)} (h : elemsOf H es c = some xs) :
    (∀ x ∈ xs, x.length = es) ∧ ∃ ad cap vs, v = .slice ad xs.length cap ∧ xs.length ≤ cap ∧ All2 (FR X.Φ X.w) xs.flatten vs ∧ (xs ≠ [] → ∃ b off, ad = some ⟨b, off, none⟩ ∧ ∀ (j : Nat) (u : Value), vs[j]? = some u → X.w.cell? ⟨b, off + j, none⟩ = some u) := by
  unfold elemsOf at h
  split at h
  · unfold elemsF at h
    split at h
    · rename_i es' ys
      split at h
      · rename_i he
        subst he
        obtain rfl := Option.some.inj h
        have hv' : FR X.Φ X.w (.sl es' ys) v := hv
        cases hv' with
        | sl _ _ b off cap vs hΦ h0 hl hn hcap hcell hfr => exact ⟨hl, _, cap, vs, rfl, hcap, ⟨by rw [flatten_length hl, hn], hfr⟩, fun _ => ⟨b, off, rfl, hcell⟩⟩
        | emp _ ad cap => exact ⟨by simp, ad, cap, [], rfl, Nat.zero_le _, by simpa using All2.nil, fun hne => absurd rfl hne⟩
      · simp at h
    · obtain rfl := Option.some.inj h
      cases hv
      exact ⟨by simp, none, 0, [], rfl, Nat.le_refl _, by simpa using All2.nil, fun hne => absurd rfl hne⟩
    · simp at h
  · rename_i o' len
    split at h
    · rename_i ty es' ys hH
      split at h
      · rename_i he
        subst he
        obtain rfl := Option.some.inj h
        obtain ⟨hu, ad, n, cap, hρ, h1, h2, rfl⟩ := hv
        have hor := (r.obj o' _ hH).2
        rw [hρ] at hor
        obtain ⟨h0, hl, flat, how, hall⟩ := hor
        have hlt : ∀ x ∈ ys.take len, x.length = es' := fun x hx => hl x (List.mem_of_mem_take hx)
        have hn : n = ys.length := by
          rcases how.2 with ⟨hn, hz⟩ | ⟨g, cap', cur, he, _⟩
          · simp only [Value.slice.injEq] at hn; omega
          · simp only [Value.slice.injEq] at he; omega
        have hlen : (ys.take len).length = len := by simp; omega
        refine ⟨hlt, ad, cap, flat.take (len * es'), by rw [hlen], by rw [hlen]; omega, by rw [flatten_take hl]; exact hall.take _, ?_⟩
        intro hne
        rcases how.2 with ⟨hn', hz⟩ | ⟨g, cap', cur, he, _⟩
        · exfalso
          apply hne
          apply List.eq_nil_of_length_eq_zero
          simp; omega
        · simp only [Value.slice.injEq] at he
          obtain ⟨rfl, _, _⟩ := he
          refine ⟨g, 0, rfl, ?_⟩
          intro j u hu'
          rw [List.getElem?_take] at hu'
          split at hu'
          · have := how.cells (g := g) rfl j u hu'
            rw [Addr.add_lit] at this
            exact this
          · simp at hu'
      · simp at h
    · simp at h
  · simp at h

theorem singles_flat {α : Type} : ∀ (fs : List α), (fs.map fun x => [x]).flatten = fs
  | [] => rfl
  | x :: r => by simp [singles_flat r]

theorem elems2_spec (r : Rel w0 m ρ0 Φ0 H X) {es : Nat} {c : EC} {v : Value} (hv : VR X c v) {xs : List (List FV)} (h : elems2 H es c = some xs) :
    (∀ x ∈ xs, x.length = es) ∧ ∃ ad cap vs, v = .slice ad xs.length cap ∧ xs.length ≤ cap ∧ All2 (FR X.Φ X.w) xs.flatten vs ∧ (xs ≠ [] → ∃ b off, ad = some ⟨b, off, none⟩ ∧ ∀ (j : Nat) (u : Value), vs[j]? = some u → X.w.cell? ⟨b, off + j, none⟩ = some u) := by
  unfold elems2 at h
  split at h
  · rename_i o' k len
    split at h
    · rename_i ty cs hH
      split at h
      · rename_i hb
        obtain ⟨rfl, hle⟩ := hb
        replace h := map_some' h; obtain ⟨fs, h1, rfl⟩ := h
        obtain ⟨hu, b, hρ, cap, hcap, rfl⟩ := hv
        obtain ⟨b', cc, hh, hheap, hall⟩ := (r.obj o' _ hH).2
        rw [hρ] at hh
        simp at hh
        subst hh
        have hfs := frzAll_spec h1
        have hlen : fs.length = len := by
          have := congrArg List.length hfs
          simp at this
          omega
        have hsub := (hall.drop k).take len
        rw [hfs] at hsub
        refine ⟨by simp, some ⟨b, k, none⟩, cap, (cc.toList.drop k).take len, by simp [hlen], by simpa [hlen] using hcap, ?_, ?_⟩
        · rw [singles_flat]
          exact All2_fz hsub
        · intro _
          refine ⟨b, k, rfl, ?_⟩
          intro j u hu'
          rw [List.getElem?_take] at hu'
          split at hu'
          · rw [List.getElem?_drop] at hu'
            rw [cell_of_row X.w b (k + j) cc ty (0, 0) hheap]
            simpa using hu'
          · simp at hu'
      · simp at h
    · simp at h
  · exact elems_spec r hv h

theorem bytesOf_spec : ∀ {xs : List (List FV)} {ns : List Int}, bytesOf xs = some ns → xs = ns.map fun n => [FV.lit (.int .u8 n)]
  | [], ns, h => by simp [bytesOf] at h; subst h; rfl
  | x :: r, ns, h => by
    unfold bytesOf at h
    split at h
    · simp at *
    · rename_i n r' heq
      simp only [List.cons.injEq] at heq
      obtain ⟨rfl, rfl⟩ := heq
      replace h := map_some' h; obtain ⟨ns', h2, rfl⟩ := h
      rw [bytesOf_spec h2]
      rfl
    · simp at h

theorem foldl_push : ∀ (ns : List Int) (s : ByteArray), ns.foldl (fun r n => r.push (UInt8.ofNat n.toNat)) s = ⟨s.data ++ (ns.map fun n => UInt8.ofNat n.toNat).toArray⟩
  | [], s => by simp
  | n :: r, s => by
    simp only [List.foldl_cons]
    rw [foldl_push r]
    simp [ByteArray.push]

theorem strOf_eq (ns : List Int) : ns.foldl (fun r n => r.push (UInt8.ofNat n.toNat)) ByteArray.empty = strOf ns := by
  rw [foldl_push]
  simp [strOf, ByteArray.empty, ByteArray.emptyWithCapacity]
  try rfl

theorem g_b2s {s d e : TypeId} {x : Operand} (ho : o.op = .convert s d x) (hs : P.underlying s = some (.slice e)) (he : P.underlying e = some (.int .u8)) (hd : P.underlying d = some .string) (r : Rel w0 m ρ0 Φ0 H X) (ha : All2 (VV X) T a.tmps.toList) {v : EV} {ob : Option EO} (h : evQ (.b2s (opd x)) T H id = some (v, ob)) : Good P o a w0 m ρ0 Φ0 H X id v ob := by
  simp only [evQ] at h
  replace h := bind_some' h; obtain ⟨c, h1, h⟩ := h
  replace h := bind_some' h; obtain ⟨xs, h2, h⟩ := h
  replace h := map_some' h; obtain ⟨ns, h3, h⟩ := h
  simp only [Prod.mk.injEq] at h
  obtain ⟨rfl, rfl⟩ := h
  have hv := VV_c h1 (VV_ev ha x)
  obtain ⟨hl, ad, cap, vs, e1, hcap, hall, hcell⟩ := elems2_spec r hv h2
  have hxs := bytesOf_spec h3
  refine .pure r (val := .string (strOf ns)) ?_ (VV_mklit rfl)
  have hfl : xs.flatten = ns.map fun n => FV.lit (.int .u8 n) := by
    rw [hxs]; clear hxs h3
    induction ns with
    | nil => rfl
    | cons n r ih => simp [ih]
  have hvs : vs = ns.map (Value.int .u8) := by
    apply List.ext_getElem?
    intro j
    rw [List.getElem?_map]
    cases hn : ns[j]? with
    | none =>
      rw [List.getElem?_eq_none (by
        rw [← hall.1, hfl, List.length_map]
        exact List.getElem?_eq_none_iff.1 hn)]
      rfl
    | some n =>
      obtain ⟨u, hu, hr⟩ := hall.get (i := j) (x := FV.lit (.int .u8 n)) (by rw [hfl, List.getElem?_map, hn]; rfl)
      cases hr
      exact hu
  simp only [execOp, ho, Sem.run_bind, e1]
  rw [run_convert_bytes_string X.w s d e _ _ cap hs he hd]
  cases ns with
  | nil =>
    obtain rfl : xs = [] := by simpa using hxs
    cases ad with
    | none => simp [Conv.bytesToString]; rfl
    | some ad =>
      rw [run_bytesToString X.w ad _ cap [] (by simp [loadCells, loadCellsFrom]), strOf_eq]
      rfl
  | cons n r' =>
    obtain ⟨b, off, rfl, hc⟩ := hcell (by rw [hxs]; simp)
    have hload := run_loadCells_list (P := P) X.w ⟨b, off, none⟩ vs (fun j v hv => by rw [Addr.add_lit]; exact hc j v hv)
    have hlen : vs.length = xs.length := by rw [hvs, hxs]; simp
    rw [hlen, hvs] at hload
    rw [run_bytesToString X.w _ _ cap (n :: r') hload, strOf_eq]
    rfl

theorem g_ixs {t : TypeId} {x i : Operand} (ho : o.op = .index t x i) (ht : P.underlying t = some .string) (r : Rel w0 m ρ0 Φ0 H X) (ha : All2 (VV X) T a.tmps.toList) {v : EV} {ob : Option EO} (h : evQ (.ixs (opd x) (opd i)) T H id = some (v, ob)) : Good P o a w0 m ρ0 Φ0 H X id v ob := by
  simp only [evQ] at h
  split at h
  · rename_i s k n hs hi
    split at h
    · rename_i h0
      replace h := map_some' h; obtain ⟨b, h2, h⟩ := h
      simp only [Prod.mk.injEq] at h
      obtain ⟨rfl, rfl⟩ := h
      refine .pure r (val := .int .u8 b.toNat) ?_ (VV_mklit rfl)
      have hb : s[n.toNat]? = some b := by
        have hlt := lt_of_get h2
        have hlt' : n.toNat < s.size := by simpa using hlt
        rw [getElem?_pos s n.toNat hlt']
        rw [List.getElem?_eq_getElem hlt] at h2
        rw [← Option.some.inj h2]
        rfl
      simp [execOp, ho, VV_lit hs (VV_ev ha x), VV_lit hi (VV_ev ha i), Instr.index, asIntOf, run_underlying ht, h0, hb]
    · simp at h
  · simp at h

theorem lits_spec (ha : All2 (VV X) T a.tmps.toList) : ∀ (xs : List Operand) (vs : List Value), lits T (xs.map opd) = some vs → xs.map a.eval = vs
  | [], vs, h => by simp [lits] at h; subst h; rfl
  | x :: r, vs, h => by
    simp only [List.map_cons, lits] at h
    replace h := bind_some' h; obtain ⟨u, h1, h⟩ := h
    replace h := map_some' h; obtain ⟨us, h2, rfl⟩ := h
    rw [List.map_cons, lits_spec ha r us h2, VV_lit h1 (VV_ev ha x)]

theorem g_minmax {mx : Bool} {args : Array Operand} {ts : Array TypeId} (ho : o.op = .call { callee := .builtin (if mx then .max else .min), args := args, argTypes := ts }) (r : Rel w0 m ρ0 Φ0 H X) (ha : All2 (VV X) T a.tmps.toList) {v : EV} {ob : Option EO} (h : evQ (.minmax mx (args.toList.map opd)) T H id = some (v, ob)) : Good P o a w0 m ρ0 Φ0 H X id v ob := by
  simp only [evQ] at h
  have hmap : ∀ vs, args.toList.map a.eval = vs → args.map a.eval = vs.toArray := by
    intro vs hvs; cases args; simp at hvs; simp [← hvs]
  split at h
  · rename_i k p k' q hl
    split at h
    · rename_i hk
      simp only [Option.some.injEq, Prod.mk.injEq] at h
      obtain ⟨rfl, rfl⟩ := h
      have e1 := hmap _ (lits_spec ha _ _ hl)
      refine .pure r (val := .int k (if mx then (if q > p then q else p) else (if q < p then q else p))) ?_ (VV_mklit rfl)
      cases mx
      · simp [execOp, ho, resolve, invoke, builtin, e1, run_min_int2]
      · simp [execOp, ho, resolve, invoke, builtin, e1, run_max_int2]
    · simp at h
  · rename_i k p k' q k'' q' hl
    split at h
    · rename_i hk
      obtain ⟨_, _, rfl⟩ := hk
      simp only [Option.some.injEq, Prod.mk.injEq] at h
      obtain ⟨rfl, rfl⟩ := h
      have e1 := hmap _ (lits_spec ha _ _ hl)
      refine .pure r (val := .int k (if q' < (if q < p then q else p) then q' else (if q < p then q else p))) ?_ (VV_mklit rfl)
      simp [execOp, ho, resolve, invoke, builtin, e1, run_min_int3]
    · simp at h
  · simp at h

theorem intsOf_spec {k : IntKind} : ∀ {cs : List EC} {ns : List Int}, intsOf k cs = some ns → cs = ns.map fun n => litc (.int k n)
  | [], ns, h => by simp [intsOf] at h; subst h; rfl
  | x :: r, ns, h => by
    unfold intsOf at h
    split at h
    · simp at *
    · rename_i k' n r' heq
      simp only [List.cons.injEq] at heq
      obtain ⟨rfl, rfl⟩ := heq
      split at h
      · rename_i hk
        subst hk
        replace h := map_some' h; obtain ⟨ns', h2, rfl⟩ := h
        rw [intsOf_spec h2]
        rfl
      · simp at h
    · simp at h

theorem All2_ints {k : IntKind} {ns : List Int} {vs : List Value} (h : All2 (VR X) (ns.map fun n => litc (.int k n)) vs) : vs = ns.map (Value.int k) := by
  apply List.ext_getElem?
  intro j
  rw [List.getElem?_map]
  cases hn : ns[j]? with
  | none =>
    rw [List.getElem?_eq_none (by rw [← h.1, List.length_map]; exact List.getElem?_eq_none_iff.1 hn)]
    rfl
  | some n =>
    obtain ⟨u, hu, hr⟩ := h.get (i := j) (x := litc (.int k n)) (by rw [List.getElem?_map, hn]; rfl)
    cases hr
    exact hu

theorem g_eqa {op : BinOp} {neg : Bool} {t e t' : TypeId} {len : Nat} {k : IntKind} {x y : Operand} (ho : o.op = .binOp op t x y t') (ht : P.underlying t = some (.array len e)) (he : P.underlying e = some (.int k)) (hs : sz P e = some 1) (hg : P.eqGuardType P.depth t = false) (hop : (op = .eql ∧ neg = false) ∨ (op = .neq ∧ neg = true)) (r : Rel w0 m ρ0 Φ0 H X) (ha : All2 (VV X) T a.tmps.toList) {v : EV} {ob : Option EO} (h : evQ (.eqa neg len k (opd x) (opd y)) T H id = some (v, ob)) : Good P o a w0 m ρ0 Φ0 H X id v ob := by
  simp only [evQ] at h
  replace h := bind_some' h; obtain ⟨cs, h1, h⟩ := h
  replace h := bind_some' h; obtain ⟨xs, h2, h⟩ := h
  replace h := bind_some' h; obtain ⟨ds, h3, h⟩ := h
  replace h := bind_some' h; obtain ⟨ys, h4, h⟩ := h
  split at h
  · rename_i hb
    obtain ⟨rfl, hl⟩ := hb
    simp only [Option.some.injEq, Prod.mk.injEq] at h
    obtain ⟨rfl, rfl⟩ := h
    obtain ⟨us, e1, a1⟩ := VV_ag h1 (VV_ev ha x)
    obtain ⟨vs, e2, a2⟩ := VV_ag h3 (VV_ev ha y)
    rw [intsOf_spec h2] at a1
    rw [intsOf_spec h4] at a2
    rw [All2_ints a1] at e1
    rw [All2_ints a2] at e2
    have key := run_eq_arr (P := P) 9998 t e k xs ys ht he hs hl X.w
    refine .pure r (val := .bool (if neg then !decide (xs = ys) else decide (xs = ys))) ?_ (VV_mklit rfl)
    rcases hop with ⟨rfl, rfl⟩ | ⟨rfl, rfl⟩
    · simp only [execOp, ho, Sem.run_bind, e1, e2, run_eqGuard_agg X.w .eql t x y _ _ hg, Result.andThen_ok, run_eql_struct, key]
      rfl
    · simp only [execOp, ho, Sem.run_bind, e1, e2, run_eqGuard_agg X.w .neq t x y _ _ hg, Result.andThen_ok, run_neq_struct, key]
      rfl
  · simp at h

theorem intS2_spec {k1 k2 : IntKind} {cs : List EC} {p : Int × List Int} (h : intS2 k1 k2 cs = some p) : cs = litc (.int k1 p.1) :: p.2.map fun n => litc (.int k2 n) := by
  unfold intS2 at h
  split at h
  · rename_i k n r
    split at h
    · rename_i hk
      subst hk
      obtain ⟨b, hb, rfl⟩ := map_some' h
      rw [intsOf_spec hb]
      rfl
    · simp at h
  · simp at h

theorem All2_ints2 {k1 k2 : IntKind} {a : Int} {ns : List Int} {vs : List Value} (h : All2 (VR X) (litc (.int k1 a) :: ns.map fun n => litc (.int k2 n)) vs) : vs = Value.int k1 a :: ns.map (Value.int k2) := by
  obtain ⟨u, us, rfl, h1, h2⟩ := h.cons_left
  rw [All2_ints h2]
  cases h1
  rfl

theorem g_eqs {op : BinOp} {neg : Bool} {t e t' : TypeId} {fs : Array Field} {f g : Field} {len : Nat} {k1 k2 : IntKind} {x y : Operand} (ho : o.op = .binOp op t x y t') (ht : P.underlying t = some (.struct fs)) (hfs : fs.toList = [f, g])
    (hf : P.underlying f.type = some (.int k1)) (hgt : P.underlying g.type = some (.array len e)) (he : P.underlying e = some (.int k2)) (h0 : f.offset = 0) (h1' : g.offset = 1) (hn1 : f.name ≠ "_") (hn2 : g.name ≠ "_")
    (hsg : sz P g.type = some len) (hs : sz P e = some 1) (hg : P.eqGuardType P.depth t = false) (hst : P.stoodInHeld t = false) (hop : (op = .eql ∧ neg = false) ∨ (op = .neq ∧ neg = true)) (r : Rel w0 m ρ0 Φ0 H X) (ha : All2 (VV X) T a.tmps.toList) {v : EV} {ob : Option EO} (h : evQ (.eqs neg k1 len k2 (opd x) (opd y)) T H id = some (v, ob)) : Good P o a w0 m ρ0 Φ0 H X id v ob := by
  simp only [evQ] at h
  replace h := bind_some' h; obtain ⟨cs, h1, h⟩ := h
  replace h := bind_some' h; obtain ⟨xs, h2, h⟩ := h
  replace h := bind_some' h; obtain ⟨ds, h3, h⟩ := h
  replace h := bind_some' h; obtain ⟨ys, h4, h⟩ := h
  split at h
  · rename_i hb
    obtain ⟨rfl, hl⟩ := hb
    simp only [Option.some.injEq, Prod.mk.injEq] at h
    obtain ⟨rfl, rfl⟩ := h
    obtain ⟨us, e1, a1⟩ := VV_ag h1 (VV_ev ha x)
    obtain ⟨vs, e2, a2⟩ := VV_ag h3 (VV_ev ha y)
    rw [intS2_spec h2] at a1
    rw [intS2_spec h4] at a2
    rw [All2_ints2 a1] at e1
    rw [All2_ints2 a2] at e2
    have key := run_eq_s2 (P := P) 9997 t e fs f g k1 k2 xs.1 ys.1 xs.2 ys.2 ht hfs hf hgt he h0 h1' hn1 hn2 hsg hs hst hl X.w
    refine .pure r (val := .bool (if neg then !decide (xs.1 = ys.1 ∧ xs.2 = ys.2) else decide (xs.1 = ys.1 ∧ xs.2 = ys.2))) ?_ (VV_mklit rfl)
    rcases hop with ⟨rfl, rfl⟩ | ⟨rfl, rfl⟩
    · simp only [execOp, ho, Sem.run_bind, e1, e2, run_eqGuard_agg X.w .eql t x y _ _ hg, Result.andThen_ok, run_eql_struct, key]
      rfl
    · simp only [execOp, ho, Sem.run_bind, e1, e2, run_eqGuard_agg X.w .neq t x y _ _ hg, Result.andThen_ok, run_neq_struct, key]
      rfl
  · simp at h

theorem g_eqop {op : BinOp} {neg : Bool} {t t' : TypeId} {x y : Operand} {q : QOp} (ho : o.op = .binOp op t x y t') (hop : (op = .eql ∧ neg = false) ∨ (op = .neq ∧ neg = true)) (hc : eqop P op neg t x y = some q) (r : Rel w0 m ρ0 Φ0 H X) (ha : All2 (VV X) T a.tmps.toList) {v : EV} {ob : Option EO} (h : evQ q T H id = some (v, ob)) : Good P o a w0 m ρ0 Φ0 H X id v ob := by
  unfold eqop at hc
  split at hc
  · obtain rfl := Option.some.inj hc; exact g_bin ho r ha h
  · obtain rfl := Option.some.inj hc; exact g_bin ho r ha h
  · rename_i ht; obtain rfl := Option.some.inj hc; exact g_eqb ho ht hop r ha h
  · rename_i e ht
    split at hc
    · split at hc
      · rename_i hp; obtain rfl := Option.some.inj hc; exact g_eqp ho (hp ▸ ht) hop r ha h
      · simp at hc
    · simp at hc
  · rename_i ms ht
    split at hc
    · obtain rfl := Option.some.inj hc; exact g_eqi ho ht hop r ha h
    · simp at hc
  · rename_i len e ht
    split at hc
    · rename_i k he
      split at hc
      · rename_i hb
        obtain rfl := Option.some.inj hc; exact g_eqa ho ht he hb.1 hb.2 hop r ha h
      · simp at hc
    · simp at hc
  · rename_i fs ht
    split at hc
    · rename_i f g hfs
      split at hc
      · rename_i k1 len e hf hg
        split at hc
        · rename_i k2 he
          split at hc
          · rename_i hb
            obtain ⟨b1, b2, b3, b4, b5, b6, b7, b8⟩ := hb
            obtain rfl := Option.some.inj hc
            exact g_eqs ho ht hfs hf hg he b1 b2 b3 b4 b5 b6 b7 b8 hop r ha h
          · simp at hc
        · simp at hc
      · simp at hc
    · simp at hc
  · simp at hc

/-- ALL QUIET OPERATIONS. -/
theorem quiet_sound {q : QOp} (hc : cop P o = some q) (r : Rel w0 m ρ0 Φ0 H X) (ha : All2 (VV X) T a.tmps.toList) (hid : ¬ X.U id) (hm : m ≤ id) {v : EV} {ob : Option EO} (h : evQ q T H id = some (v, ob)) : Good P o a w0 m ρ0 Φ0 H X id v ob := by
  unfold cop at hc
  split at hc
  · rename_i x ho
    obtain rfl := Option.some.inj hc
    exact g_mov (.inl ho) r ha h
  · rename_i x ho
    obtain rfl := Option.some.inj hc
    exact g_mov (.inr ho) r ha h
  · rename_i c x y ho
    obtain rfl := Option.some.inj hc
    exact g_pick ho r ha h
  · rename_i op t x ho
    obtain rfl := Option.some.inj hc
    exact g_un ho r ha h
  · rename_i op t x y t' ho
    split at hc
    · exact g_eqop ho (.inl ⟨rfl, rfl⟩) hc r ha h
    · exact g_eqop ho (.inr ⟨rfl, rfl⟩) hc r ha h
    · obtain rfl := Option.some.inj hc; exact g_bin ho r ha h
  · rename_i s d x ho
    split at hc
    · rename_i k' k hs hd
      obtain rfl := Option.some.inj hc
      exact g_cnv ho hs hd r ha h
    · rename_i e hs hd
      split at hc
      · rename_i he; obtain rfl := Option.some.inj hc; exact g_b2s ho hs he hd r ha h
      · simp at hc
    · rename_i e hs hd
      split at hc
      · rename_i he; obtain rfl := Option.some.inj hc; exact g_s2b ho hs hd he r ha h
      · simp at hc
    · simp at hc
  · rename_i t ho
    replace hc := map_some' hc; obtain ⟨z, hz, rfl⟩ := hc
    exact g_alloc ho hz r hid hm h
  · rename_i t x ho
    obtain rfl := Option.some.inj hc
    exact g_box ho r ha hid hm h
  · rename_i t parts ho
    replace hc := bind_some' hc; obtain ⟨z, hz, hc⟩ := hc
    split at hc
    · rename_i fs hu
      replace hc := bind_some' hc; obtain ⟨pl, hpl, hc⟩ := hc
      replace hc := map_some' hc; obtain ⟨ps, hps, rfl⟩ := hc
      exact g_build ho hz (.inl ⟨fs, pl, hu, hpl, hps⟩) r ha h
    · rename_i l e hu
      replace hc := bind_some' hc; obtain ⟨n, hn, hc⟩ := hc
      replace hc := map_some' hc; obtain ⟨ps, hps, rfl⟩ := hc
      exact g_build ho hz (.inr ⟨l, e, n, hu, hn, hps⟩) r ha h
    · simp at hc
  · rename_i t len parts ho
    split at hc
    · rename_i e hu
      replace hc := bind_some' hc; obtain ⟨es, hes, hc⟩ := hc
      replace hc := bind_some' hc; obtain ⟨z, hz, hc⟩ := hc
      split at hc
      · rename_i hb
        obtain rfl := Option.some.inj hc
        exact g_bsl ho hu hes hz hb.1 hb.2.1 hb.2.2 r ha h
      · simp at hc
    · simp at hc
  · rename_i t x ho
    replace hc := bind_some' hc; obtain ⟨ag, hag, hc⟩ := hc
    split at hc
    · rename_i hag1
      rw [hag1] at hag
      replace hc := map_some' hc; obtain ⟨n, hn, rfl⟩ := hc
      exact g_lda ho hag hn r ha h
    · rename_i hag1
      rw [Bool.eq_false_iff.2 hag1] at hag
      obtain rfl := Option.some.inj hc
      exact g_ldc ho hag r ha h
  · rename_i x ho
    obtain rfl := Option.some.inj hc
    exact g_nilc ho r ha h
  · rename_i t x ho
    split at hc
    · rename_i n e hu
      replace hc := map_some' hc; obtain ⟨es, hes, rfl⟩ := hc
      exact g_s2a ho hu r ha h
    · simp at hc
  · rename_i s x f ho
    replace hc := bind_some' hc; obtain ⟨fl, hf, hc⟩ := hc
    replace hc := bind_some' hc; obtain ⟨n, hn, hc⟩ := hc
    split at hc
    · simp at hc
    · rename_i hz
      obtain rfl := Option.some.inj hc
      exact g_fad ho hf hn hz r ha h
  · rename_i s x f ho
    replace hc := bind_some' hc; obtain ⟨fl, hf, hc⟩ := hc
    replace hc := bind_some' hc; obtain ⟨ag, hag, hc⟩ := hc
    split at hc
    · rename_i hag1
      rw [hag1] at hag
      replace hc := map_some' hc; obtain ⟨n, hn, rfl⟩ := hc
      exact g_fga ho hf hag hn r ha h
    · rename_i hag1
      rw [Bool.eq_false_iff.2 hag1] at hag
      obtain rfl := Option.some.inj hc
      exact g_fgc ho hf hag r ha h
  · rename_i t x i ho
    split at hc
    · rename_i len e hu
      replace hc := map_some' hc; obtain ⟨es, hes, rfl⟩ := hc
      exact g_iad ho hu hes r ha h
    · rename_i e hu
      replace hc := bind_some' hc; obtain ⟨es, hes, hc⟩ := hc
      split at hc
      · rename_i h0; obtain rfl := Option.some.inj hc; exact g_isl ho hu hes h0 r ha h
      · simp at hc
    · simp at hc
  · rename_i t x i ho
    split at hc
    · rename_i hu; obtain rfl := Option.some.inj hc; exact g_ixs ho hu r ha h
    · simp at hc
  · rename_i t x lo hi ho
    split at hc
    · rename_i len e hu
      replace hc := bind_some' hc; obtain ⟨es, hes, hc⟩ := hc
      split at hc
      · rename_i h1; subst h1; obtain rfl := Option.some.inj hc; exact g_sar ho hu hes r ha h
      · simp at hc
    · rename_i e hu
      replace hc := bind_some' hc; obtain ⟨es, hes, hc⟩ := hc
      split at hc
      · obtain rfl := Option.some.inj hc; exact g_ssl ho hu hes r ha h
      · simp at hc
    · rename_i hu; obtain rfl := Option.some.inj hc; exact g_sst ho hu r ha h
    · simp at hc
  · rename_i x i ho
    obtain rfl := Option.some.inj hc
    exact g_ext ho r ha h
  · rename_i f first caps ho
    split at hc
    · rename_i h0; obtain rfl := Option.some.inj hc; exact g_mkf ho h0 r ha h
    · simp at hc
  · rename_i t x ho
    split at hc
    · simp at hc
    · rename_i d hd hu; obtain rfl := Option.some.inj hc; exact g_mki ho hu (fun ms e => hd ms e) r ha h
    · simp at hc
  · rename_i t l c ho
    split at hc
    · rename_i e hu
      replace hc := bind_some' hc; obtain ⟨i, hi, hc⟩ := hc
      replace hc := bind_some' hc; obtain ⟨z, hz, hc⟩ := hc
      split at hc
      · rename_i hb; obtain rfl := Option.some.inj hc; exact g_mks ho hu hi hz hb.2 r ha hid hm h
      · simp at hc
    · simp at hc
  · rename_i args ts ho
    split at hc
    · rename_i x t hx ht
      split at hc
      · rename_i e hu; obtain rfl := Option.some.inj hc; exact g_len ho hx ht hu r ha h
      · rename_i hu; obtain rfl := Option.some.inj hc; exact g_lens ho hx ht hu r ha h
      · simp at hc
    · simp at hc
  · rename_i args ts ho
    split at hc
    · obtain rfl := Option.some.inj hc; exact g_minmax (mx := false) (by simpa using ho) r ha h
    · simp at hc
  · rename_i args ts ho
    split at hc
    · obtain rfl := Option.some.inj hc; exact g_minmax (mx := true) (by simpa using ho) r ha h
    · simp at hc
  · simp at hc

theorem quiet_soundR {q : QOp} (hc : copR P o = some q) (r : Rel w0 m ρ0 Φ0 H X) (ha : All2 (VV X) T a.tmps.toList) (hid : ¬ X.U id) (hm : m ≤ id) {v : EV} {ob : Option EO} (h : evQ q T H id = some (v, ob)) : Good P o a w0 m ρ0 Φ0 H X id v ob := by
  unfold copR at hc
  split at hc
  · rename_i t len parts ho
    split at hc
    · rename_i e hu
      replace hc := bind_some' hc; obtain ⟨es, hes, hc⟩ := hc
      replace hc := bind_some' hc; obtain ⟨z, hz, hc⟩ := hc
      split at hc
      · rename_i hb
        obtain rfl := Option.some.inj hc
        exact g_bsr ho hu hes hz hb.1 hb.2.1 hb.2.2 r ha hid hm h
      · simp at hc
    · simp at hc
  · simp at hc

end
end Go.EW
